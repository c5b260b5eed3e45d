/- What the functions of the program do: their contracts. -/
import Derived.Test.YthfbpdipilajoaaGreatDoorV2
import Derived.Test.YthfbpdipilajoaaGreatDoorTFs
import Derived.Test.YthfbpdipilajoaaGreatDoorW0
/- Years. -/
set_option linter.unusedSimpArgs false
set_option linter.unusedVariables false
namespace Go.Proofs.Lx
open Go.Vm
attribute [local irreducible] awpArr awpBin awpMake awpAppend awpCvX awpStrOf awpBinX awpSlice awpBS awpStore awpAlloc awpCopy awpIndex awpDraw awpIdxX awpFa awpField awpLookup awpUpdate awpDelete awpClear awpRange awpNext awpEntry awpBuild awpClearS awpIdxL
def yrK (n : Int) : List UInt8 := keyOf 89 [n]
theorem yrK_length (n : Int) : (yrK n).length = 5 := by simp [yrK, keyOf, packs, be_length]
def yrKeySpec : Vm.Spec := fun args h Q => ∃ iv n, args = [.agg [.ptr iv 0, .v (.int .i64 n)]] ∧ Q (.own true 5 1 ((yrK n).map encB)) h
theorem does_yrKey : Does Tryz.prog 166 yrKeySpec := by
  refine does_of_awp (good_cons does_key good_nil) Tryz.func166 rfl (by decide +kernel) (by decide +kernel) ?_
  rintro args h Q ⟨iv, n, rfl, hq⟩
  refine ⟨by simp [Tryz.f166], ?_⟩
  rw [awpFunc_some (by rfl)]
  simp -dsimp only [Vm.E, List.lookup, Nat.reduceAdd, Nat.reduceBEq, Int.reduceBNe, Int.reduceBEq, Bool.true_beq, Bool.false_beq, Vm.S, Nat.reduceLeDiff, fo146_1, of3, es41]
  refine bs_intro zr3 (by decide) (by decide) rfl rfl (by simp [solid, AV.cells]) ?_
  simp -dsimp only [Vm.E, List.lookup, Nat.reduceAdd, Nat.reduceBEq, Int.reduceBNe, Int.reduceBEq, Bool.true_beq, Bool.false_beq]
  refine call_one (S := keySpec) rfl _ GaL.rfl ⟨89, [n], by simp, rfl, ?_⟩
  simp -dsimp only [Vm.E, List.lookup, Nat.reduceAdd, Nat.reduceBEq, Int.reduceBNe, Int.reduceBEq, Bool.true_beq, Bool.false_beq, Tryz.results166]
  exact hq
/-- The state of a year. -/
def stateOf (f : Fun) (n : Int) : Int := if readOf f (yrK n) = 1 ∨ readOf f (yrK n) = 2 then readOf f (yrK n) else 0
def yrStateSpec : Vm.Spec := fun args h Q => ∃ V f n, args = [.agg [.ptr V.iv 0, .v (.int .i64 n)]] ∧ isView h V f ∧ Q (.v (.int .i64 (stateOf f n))) h
theorem does_yrState : Does Tryz.prog 100 yrStateSpec := by
  refine does_of_awp (good_cons does_yrKey (good_cons does_vgetW (good_cons does_unpack good_nil))) Tryz.func100 rfl (by decide +kernel) (by decide +kernel) ?_
  rintro args h Q ⟨V, f, n, rfl, hV, hq⟩
  refine ⟨by simp [Tryz.f100], ?_⟩
  rw [awpFunc_some (by rfl)]
  have hlen := fun l => hV.len (yrK n) l
  unfold stateOf at hq
  simp -dsimp only [Vm.E, List.lookup, Nat.reduceAdd, Nat.reduceBEq, Int.reduceBNe, Int.reduceBEq, Bool.true_beq, Bool.false_beq, Vm.S, Nat.reduceLeDiff]
  refine draw_pub [1] (.take 0 (.take 1 (.take 2 (.alt 3 (.alt 4 (.take 5 (.take 6 (.take 7 (.alt 8 (.alt 9 (.done) .stop) .stop)))) .stop) .stop)))) (by kernel_rfl) (by kernel_rfl) (by kernel_rfl) (by decide) ?_
  simp -dsimp only [Vm.E, List.lookup, Nat.reduceAdd, Nat.reduceBEq, Int.reduceBNe, Int.reduceBEq, Bool.true_beq, Bool.false_beq, Vm.S, Nat.reduceLeDiff, fo146_0, of26, of146]
  refine call_one (S := yrKeySpec) rfl _ GaL.rfl ⟨V.iv, n, rfl, ?_⟩
  simp -dsimp only [Vm.E, List.lookup, Nat.reduceAdd, Nat.reduceBEq, Int.reduceBNe, Int.reduceBEq, Bool.true_beq, Bool.false_beq, Vm.S, Nat.reduceLeDiff]
  refine call_one (S := vgetWSpec) rfl _ GaL.rfl ⟨V, f, yrK n, rfl, hV, fun l hf => ?_, fun hf => ?_⟩
  · have hl := hlen l hf
    have er : readOf f (yrK n) = if l.length = 8 then num8 l 0 else 0 := by unfold readOf; rw [hf]
    rw [er] at hq
    clear er
    obtain ⟨x, hx⟩ : ∃ x, num8 l 0 = x := ⟨_, rfl⟩
    rw [hx] at hq
    simp -dsimp only [Vm.E, List.lookup, Nat.reduceAdd, Nat.reduceBEq, Int.reduceBNe, Int.reduceBEq, Bool.true_beq, Bool.false_beq]
    refine call_one (S := unpackSpec) rfl _ GaL.rfl ⟨l, 1, by omega, by unfold I64; omega, rfl, ?_⟩
    unfold unpackRes
    by_cases h8 : l.length = 8
    · rw [if_pos h8] at hq
      rw [if_neg (by omega), if_neg (by simp [h8])]
      simp -dsimp only [Vm.E, List.lookup, Nat.reduceAdd, Nat.reduceBEq, Int.reduceBNe, Int.reduceBEq, Bool.true_beq, Bool.false_beq, bne_self_eq_false, es41, as41]
      refine idx_ints (numsOf l 1) 0 (by simp [numsOf]) ?_
      have e0 : (numsOf l 1)[0]'(by simp [numsOf]) = x := by rw [← hx]; simp [numsOf]
      simp -dsimp only [Vm.E, List.lookup, Nat.reduceAdd, Nat.reduceBEq, Int.reduceBNe, Int.reduceBEq, Bool.true_beq, Bool.false_beq, of3, e0]
      cases c1 : (x == 1)
      · have d1 : ¬ x = 1 := by simpa using c1
        simp -dsimp only [Vm.E, List.lookup, Nat.reduceAdd, Nat.reduceBEq, Int.reduceBNe, Int.reduceBEq, Bool.true_beq, Bool.false_beq]
        cases c2 : (x == 2)
        · have d2 : ¬ x = 2 := by simpa using c2
          rw [if_neg (by simp [d1, d2])] at hq
          simp -dsimp only [Vm.E, List.lookup, Nat.reduceAdd, Nat.reduceBEq, Int.reduceBNe, Int.reduceBEq, Bool.true_beq, Bool.false_beq, Tryz.results100]
          exact hq
        · have d2 : x = 2 := by simpa using c2
          rw [if_pos (.inr d2)] at hq
          simp -dsimp only [Vm.E, List.lookup, Nat.reduceAdd, Nat.reduceBEq, Int.reduceBNe, Int.reduceBEq, Bool.true_beq, Bool.false_beq, es41, as41]
          refine idx_ints (numsOf l 1) 0 (by simp [numsOf]) ?_
          simp -dsimp only [Vm.E, List.lookup, Nat.reduceAdd, Nat.reduceBEq, Int.reduceBNe, Int.reduceBEq, Bool.true_beq, Bool.false_beq, of3, e0, Tryz.results100]
          exact hq
      · have d1 : x = 1 := by simpa using c1
        rw [if_pos (.inl d1)] at hq
        simp -dsimp only [Vm.E, List.lookup, Nat.reduceAdd, Nat.reduceBEq, Int.reduceBNe, Int.reduceBEq, Bool.true_beq, Bool.false_beq, es41, as41]
        refine idx_ints (numsOf l 1) 0 (by simp [numsOf]) ?_
        simp -dsimp only [Vm.E, List.lookup, Nat.reduceAdd, Nat.reduceBEq, Int.reduceBNe, Int.reduceBEq, Bool.true_beq, Bool.false_beq, of3, e0, Tryz.results100]
        exact hq
    · rw [if_neg h8] at hq
      rw [if_neg (by omega), if_pos (by omega)]
      simp -dsimp only [Vm.E, List.lookup, Nat.reduceAdd, Nat.reduceBEq, Int.reduceBNe, Int.reduceBEq, Bool.true_beq, Bool.false_beq, Tryz.results100]
      exact hq
  · have er : readOf f (yrK n) = 0 := by unfold readOf; rw [hf]
    rw [er] at hq
    simp -dsimp only [Vm.E, List.lookup, Nat.reduceAdd, Nat.reduceBEq, Int.reduceBNe, Int.reduceBEq, Bool.true_beq, Bool.false_beq]
    refine call_one (S := unpackSpec) rfl _ GaL.rfl ⟨[], 1, by simp, by unfold I64; omega, rfl, ?_⟩
    unfold unpackRes
    rw [if_neg (by omega), if_pos (by simp)]
    simp -dsimp only [Vm.E, List.lookup, Nat.reduceAdd, Nat.reduceBEq, Int.reduceBNe, Int.reduceBEq, Bool.true_beq, Bool.false_beq, Tryz.results100]
    exact hq
/-- What turning a year leaves. -/
def yrTurn (f : Fun) (n st : Int) : Fun := upd f (yrK n) (some (be 8 st))
theorem right_yr (n st : Int) : rightKV (yrK n) (be 8 st) = true := by simp [rightKV, yrK_length, be_length]
def yrTurnSpec : Vm.Spec := fun args h Q => ∃ V f n st, args = [.agg [.ptr V.iv 0, .v (.int .i64 n)], .v (.int .i64 st)] ∧ I64 st ∧ isView h V f ∧ ∀ h', isView h' V (yrTurn f n st) → Same h h' [V.ic] → Q (.v (.int .i64 0)) h'
theorem does_yrTurn : Does Tryz.prog 101 yrTurnSpec := by
  refine does_of_awp (good_cons does_yrKey (good_cons does_pack (good_cons does_vput good_nil))) Tryz.func101 rfl (by decide +kernel) (by decide +kernel) ?_
  rintro args h Q ⟨V, f, n, st, rfl, hst, hV, hq⟩
  refine ⟨by simp [Tryz.f101], ?_⟩
  rw [awpFunc_some (by rfl)]
  simp -dsimp only [Vm.E, List.lookup, Nat.reduceAdd, Nat.reduceBEq, Int.reduceBNe, Int.reduceBEq, Bool.true_beq, Bool.false_beq, Vm.S, Nat.reduceLeDiff]
  refine draw_cont [2] (.take 0 (.take 1 (.take 2 (.take 4 (.alt 3 (.alt 5 (.alt 6 (.alt 7 (.alt 8 (.done) .stop) .stop) .stop) .stop) (.alt 5 (.alt 3 (.alt 6 (.alt 7 (.alt 8 (.done) .stop) .stop) .stop) .stop) (.stop))))))) (fun s h' => isView h' V (yrTurn f n st) ∧ Same h h' [V.ic] ∧ s 4 = .v (.int .i64 0)) (by kernel_rfl) (by kernel_rfl) (by kernel_rfl) (by decide) ?_ ?_
  · simp -dsimp only [Vm.E, List.lookup, Nat.reduceAdd, Nat.reduceBEq, Int.reduceBNe, Int.reduceBEq, Bool.true_beq, Bool.false_beq, Vm.S, Nat.reduceLeDiff, fo146_0, of26, of146]
    refine tree_alt ?_ (tree_alt ?_ trivial)
    · simp -dsimp only [Vm.E, List.lookup, Nat.reduceAdd, Nat.reduceBEq, Int.reduceBNe, Int.reduceBEq, Bool.true_beq, Bool.false_beq, Vm.S, Nat.reduceLeDiff, es41]
      refine call_one (S := yrKeySpec) rfl _ GaL.rfl ⟨V.iv, n, rfl, ?_⟩
      simp -dsimp only [Vm.E, List.lookup, Nat.reduceAdd, Nat.reduceBEq, Int.reduceBNe, Int.reduceBEq, Bool.true_beq, Bool.false_beq, Vm.S, Nat.reduceLeDiff, es41]
      refine bs_intro zr3 (by decide) (by decide) rfl rfl (by simp [solid, AV.cells]) ?_
      simp -dsimp only [Vm.E, List.lookup, Nat.reduceAdd, Nat.reduceBEq, Int.reduceBNe, Int.reduceBEq, Bool.true_beq, Bool.false_beq, Vm.S, Nat.reduceLeDiff, es41]
      refine call_one (S := packSpec) rfl _ GaL.rfl ⟨[st], by simp, by simpa using hst, rfl, ?_⟩
      simp only [packOf_one]
      simp -dsimp only [Vm.E, List.lookup, Nat.reduceAdd, Nat.reduceBEq, Int.reduceBNe, Int.reduceBEq, Bool.true_beq, Bool.false_beq, Vm.S, Nat.reduceLeDiff, es41]
      refine call_one (S := vputSpec) rfl _ GaL.rfl ⟨V, f, yrK n, be 8 st, rfl, hV, fun _ h' g1 g2 => ?_, fun hc => by rw [right_yr] at hc; cases hc⟩
      simp -dsimp only [Vm.E, List.lookup, Nat.reduceAdd, Nat.reduceBEq, Int.reduceBNe, Int.reduceBEq, Bool.true_beq, Bool.false_beq, Vm.S, Nat.reduceLeDiff, es41]
      exact ⟨g1, g2, trivial⟩
    · simp -dsimp only [Vm.E, List.lookup, Nat.reduceAdd, Nat.reduceBEq, Int.reduceBNe, Int.reduceBEq, Bool.true_beq, Bool.false_beq, Vm.S, Nat.reduceLeDiff, es41]
      refine bs_intro zr3 (by decide) (by decide) rfl rfl (by simp [solid, AV.cells]) ?_
      simp -dsimp only [Vm.E, List.lookup, Nat.reduceAdd, Nat.reduceBEq, Int.reduceBNe, Int.reduceBEq, Bool.true_beq, Bool.false_beq, Vm.S, Nat.reduceLeDiff, es41]
      refine call_one (S := yrKeySpec) rfl _ GaL.rfl ⟨V.iv, n, rfl, ?_⟩
      simp -dsimp only [Vm.E, List.lookup, Nat.reduceAdd, Nat.reduceBEq, Int.reduceBNe, Int.reduceBEq, Bool.true_beq, Bool.false_beq, Vm.S, Nat.reduceLeDiff, es41]
      refine call_one (S := packSpec) rfl _ GaL.rfl ⟨[st], by simp, by simpa using hst, rfl, ?_⟩
      simp only [packOf_one]
      simp -dsimp only [Vm.E, List.lookup, Nat.reduceAdd, Nat.reduceBEq, Int.reduceBNe, Int.reduceBEq, Bool.true_beq, Bool.false_beq, Vm.S, Nat.reduceLeDiff, es41]
      refine call_one (S := vputSpec) rfl _ GaL.rfl ⟨V, f, yrK n, be 8 st, rfl, hV, fun _ h' g1 g2 => ?_, fun hc => by rw [right_yr] at hc; cases hc⟩
      simp -dsimp only [Vm.E, List.lookup, Nat.reduceAdd, Nat.reduceBEq, Int.reduceBNe, Int.reduceBEq, Bool.true_beq, Bool.false_beq, Vm.S, Nat.reduceLeDiff, es41]
      exact ⟨g1, g2, trivial⟩
  · rintro s h' ⟨g1, g2, g3⟩
    simp -dsimp only [Vm.E, List.lookup, Nat.reduceAdd, Nat.reduceBEq, Int.reduceBNe, Int.reduceBEq, Bool.true_beq, Bool.false_beq, g3, Tryz.results101]
    exact hq h' g1 g2
def rightY (n : Int) : Bool := decide (2000 ≤ n) && decide (n ≤ 2099)
def yrRightSpec : Vm.Spec := fun args h Q => ∃ n, args = [.v (.int .i64 n)] ∧ Q (.v (.bool (rightY n))) h
theorem does_yrRight : Does Tryz.prog 48 yrRightSpec := by
  refine does_of_awp good_nil Tryz.func48 rfl (by decide +kernel) (by decide +kernel) ?_
  rintro args h Q ⟨n, rfl, hq⟩
  refine ⟨by simp [Tryz.f48], ?_⟩
  rw [awpFunc_some (by rfl)]
  unfold rightY at hq
  simp -dsimp only [Vm.E, List.lookup, Nat.reduceAdd, Nat.reduceBEq, Int.reduceBNe, Int.reduceBEq, Bool.true_beq, Bool.false_beq]
  cases c1 : decide (2000 ≤ n)
  · rw [c1] at hq
    simp -dsimp only [Vm.E, List.lookup, Nat.reduceAdd, Nat.reduceBEq, Int.reduceBNe, Int.reduceBEq, Bool.true_beq, Bool.false_beq, Tryz.results48]
    exact hq
  · rw [c1] at hq
    simp -dsimp only [Vm.E, List.lookup, Nat.reduceAdd, Nat.reduceBEq, Int.reduceBNe, Int.reduceBEq, Bool.true_beq, Bool.false_beq, Tryz.results48]
    exact hq
def yStateSpec : Vm.Spec := fun args h Q => ∃ V f n, args = [.ptr V.iv 0, .v (.int .i64 n)] ∧ isView h V f ∧ Q (.v (.int .i64 (stateOf f n))) h
theorem does_yState : Does Tryz.prog 31 yStateSpec := by
  refine does_of_awp (good_cons does_yrState good_nil) Tryz.func31 rfl (by decide +kernel) (by decide +kernel) ?_
  rintro args h Q ⟨V, f, n, rfl, hV, hq⟩
  refine ⟨by simp [Tryz.f31], ?_⟩
  rw [awpFunc_some (by rfl)]
  simp -dsimp only [Vm.E, List.lookup, Nat.reduceAdd, Nat.reduceBEq, Int.reduceBNe, Int.reduceBEq, Bool.true_beq, Bool.false_beq, Vm.S, Nat.reduceLeDiff, bd146]
  refine call_one (S := yrStateSpec) rfl _ GaL.rfl ⟨V, f, n, rfl, hV, ?_⟩
  simp -dsimp only [Vm.E, List.lookup, Nat.reduceAdd, Nat.reduceBEq, Int.reduceBNe, Int.reduceBEq, Bool.true_beq, Bool.false_beq, Tryz.results31]
  exact hq
theorem stateOf_cases (f : Fun) (n : Int) : stateOf f n = 0 ∨ stateOf f n = 1 ∨ stateOf f n = 2 := by unfold stateOf; split <;> omega
def openOf (f : Fun) (n : Int) : Fun × Int := if rightY n then if stateOf f n = 0 then (yrTurn f n 1, 0) else (f, 8) else (f, 1)
def yOpenSpec : Vm.Spec := fun args h Q => ∃ V f n, args = [.ptr V.iv 0, .v (.int .i64 n)] ∧ isView h V f ∧ ∀ h', isView h' V (openOf f n).1 → Same h h' [V.ic] → Q (.v (.int .i64 (openOf f n).2)) h'
theorem does_yOpen : Does Tryz.prog 29 yOpenSpec := by
  refine does_of_awp (good_cons does_yrRight (good_cons does_yrState (good_cons does_yrTurn good_nil))) Tryz.func29 rfl (by decide +kernel) (by decide +kernel) ?_
  rintro args h Q ⟨V, f, n, rfl, hV, hq⟩
  refine ⟨by simp [Tryz.f29], ?_⟩
  rw [awpFunc_some (by rfl)]
  unfold openOf at hq
  simp -dsimp only [Vm.E, List.lookup, Nat.reduceAdd, Nat.reduceBEq, Int.reduceBNe, Int.reduceBEq, Bool.true_beq, Bool.false_beq, Vm.S, Nat.reduceLeDiff, bd146, al146, sz146]
  refine call_one (S := yrRightSpec) rfl _ GaL.rfl ⟨n, rfl, ?_⟩
  cases c1 : rightY n
  · rw [c1] at hq
    simp -dsimp only [Vm.E, List.lookup, Nat.reduceAdd, Nat.reduceBEq, Int.reduceBNe, Int.reduceBEq, Bool.true_beq, Bool.false_beq, Tryz.results29]
    exact hq h hV (.refl _ _)
  · rw [c1] at hq
    simp -dsimp only [Vm.E, List.lookup, Nat.reduceAdd, Nat.reduceBEq, Int.reduceBNe, Int.reduceBEq, Bool.true_beq, Bool.false_beq, Vm.S, Nat.reduceLeDiff, of146]
    refine call_one (S := yrStateSpec) rfl _ GaL.rfl ⟨V, f, n, rfl, hV, ?_⟩
    simp -dsimp only [Vm.E, List.lookup, Nat.reduceAdd, Nat.reduceBEq, Int.reduceBNe, Int.reduceBEq, Bool.true_beq, Bool.false_beq]
    cases c2 : (stateOf f n != 0)
    · have d2 : stateOf f n = 0 := by simpa using c2
      rw [if_pos rfl, if_pos d2] at hq
      simp -dsimp only [Vm.E, List.lookup, Nat.reduceAdd, Nat.reduceBEq, Int.reduceBNe, Int.reduceBEq, Bool.true_beq, Bool.false_beq, Vm.S, Nat.reduceLeDiff, of146]
      refine call_one (S := yrTurnSpec) rfl _ GaL.rfl ⟨V, f, n, 1, rfl, by unfold I64; omega, hV, fun h' g1 g2 => ?_⟩
      simp -dsimp only [Vm.E, List.lookup, Nat.reduceAdd, Nat.reduceBEq, Int.reduceBNe, Int.reduceBEq, Bool.true_beq, Bool.false_beq, Tryz.results29]
      exact hq h' g1 g2
    · have d2 : ¬ stateOf f n = 0 := by simpa using c2
      rw [if_pos rfl, if_neg d2] at hq
      simp -dsimp only [Vm.E, List.lookup, Nat.reduceAdd, Nat.reduceBEq, Int.reduceBNe, Int.reduceBEq, Bool.true_beq, Bool.false_beq, Tryz.results29]
      exact hq h hV (.refl _ _)
def checkY (f : Fun) (n : Int) : Int := if stateOf f n = 1 then 0 else if stateOf f n = 2 then 13 else 7
def yCheckSpec : Vm.Spec := fun args h Q => ∃ V f n, args = [.ptr V.iv 0, .v (.int .i64 n)] ∧ isView h V f ∧ Q (.v (.int .i64 (checkY f n))) h
theorem does_yCheck : Does Tryz.prog 46 yCheckSpec := by
  refine does_of_awp (good_cons does_yState good_nil) Tryz.func46 rfl (by decide +kernel) (by decide +kernel) ?_
  rintro args h Q ⟨V, f, n, rfl, hV, hq⟩
  refine ⟨by simp [Tryz.f46], ?_⟩
  rw [awpFunc_some (by rfl)]
  unfold checkY at hq
  simp -dsimp only [Vm.E, List.lookup, Nat.reduceAdd, Nat.reduceBEq, Int.reduceBNe, Int.reduceBEq, Bool.true_beq, Bool.false_beq, Vm.S, Nat.reduceLeDiff]
  refine call_one (S := yStateSpec) rfl _ GaL.rfl ⟨V, f, n, rfl, hV, ?_⟩
  rcases stateOf_cases f n with e | e | e <;> rw [e] at hq ⊢ <;> simp -dsimp only [Vm.E, List.lookup, Nat.reduceAdd, Nat.reduceBEq, Int.reduceBNe, Int.reduceBEq, Bool.true_beq, Bool.false_beq, Tryz.results46] <;> exact hq
def shutOf (f : Fun) (n : Int) : Fun × Int := if checkY f n = 0 then (yrTurn f n 2, 0) else (f, checkY f n)
def yShutSpec : Vm.Spec := fun args h Q => ∃ V f n, args = [.ptr V.iv 0, .v (.int .i64 n)] ∧ isView h V f ∧ ∀ h', isView h' V (shutOf f n).1 → Same h h' [V.ic] → Q (.v (.int .i64 (shutOf f n).2)) h'
theorem does_yShut : Does Tryz.prog 30 yShutSpec := by
  refine does_of_awp (good_cons does_yCheck (good_cons does_yrTurn good_nil)) Tryz.func30 rfl (by decide +kernel) (by decide +kernel) ?_
  rintro args h Q ⟨V, f, n, rfl, hV, hq⟩
  refine ⟨by simp [Tryz.f30], ?_⟩
  rw [awpFunc_some (by rfl)]
  unfold shutOf at hq
  simp -dsimp only [Vm.E, List.lookup, Nat.reduceAdd, Nat.reduceBEq, Int.reduceBNe, Int.reduceBEq, Bool.true_beq, Bool.false_beq, Vm.S, Nat.reduceLeDiff]
  refine call_one (S := yCheckSpec) rfl _ GaL.rfl ⟨V, f, n, rfl, hV, ?_⟩
  simp -dsimp only [Vm.E, List.lookup, Nat.reduceAdd, Nat.reduceBEq, Int.reduceBNe, Int.reduceBEq, Bool.true_beq, Bool.false_beq]
  cases c1 : (checkY f n != 0)
  · have d1 : checkY f n = 0 := by simpa using c1
    rw [if_pos d1] at hq
    simp -dsimp only [Vm.E, List.lookup, Nat.reduceAdd, Nat.reduceBEq, Int.reduceBNe, Int.reduceBEq, Bool.true_beq, Bool.false_beq, Vm.S, Nat.reduceLeDiff, bd146]
    refine call_one (S := yrTurnSpec) rfl _ GaL.rfl ⟨V, f, n, 2, rfl, by unfold I64; omega, hV, fun h' g1 g2 => ?_⟩
    simp -dsimp only [Vm.E, List.lookup, Nat.reduceAdd, Nat.reduceBEq, Int.reduceBNe, Int.reduceBEq, Bool.true_beq, Bool.false_beq, Tryz.results30]
    exact hq h' g1 g2
  · have d1 : ¬ checkY f n = 0 := by simpa using c1
    rw [if_neg d1] at hq
    simp -dsimp only [Vm.E, List.lookup, Nat.reduceAdd, Nat.reduceBEq, Int.reduceBNe, Int.reduceBEq, Bool.true_beq, Bool.false_beq, Tryz.results30]
    exact hq h hV (.refl _ _)
end Go.Proofs.Lx
/- Keys and records are read as they were written: plain laws. -/
set_option linter.unusedSimpArgs false
set_option linter.unusedVariables false
namespace Go.Proofs.Lx
open Go.Vm
theorem getOf_be4 (n : Int) (h0 : 0 ≤ n) (h1 : n ≤ 4294967295) : (getOf (be 4 n)).toInt = n := by
  have hb : be 4 n = [byteOf n 3, byteOf n 2, byteOf n 1, byteOf n 0] := rfl
  have b3 := byteOf_nat n 3; have b2 := byteOf_nat n 2; have b1 := byteOf_nat n 1; have b0 := byteOf_nat n 0
  simp only [Nat.reduceMul, Int.reducePow] at b3 b2 b1 b0
  have e : (getOf (be 4 n)).toNat = n.toNat := by
    rw [hb]
    simp only [getOf, List.foldl_cons, List.foldl_nil]
    have z : (0#64).toNat = 0 := rfl
    have s1 := getStep_nat 0#64 (byteOf n 3) (by rw [z]; omega)
    have e1 : (getStep 0#64 (byteOf n 3)).toNat = n.toNat / 16777216 := by rw [s1, z]; omega
    generalize getStep 0#64 (byteOf n 3) = x1 at e1 ⊢
    have e2 : (getStep x1 (byteOf n 2)).toNat = n.toNat / 65536 := by rw [getStep_nat _ _ (by omega), e1]; omega
    generalize getStep x1 (byteOf n 2) = x2 at e2 ⊢
    have e3 : (getStep x2 (byteOf n 1)).toNat = n.toNat / 256 := by rw [getStep_nat _ _ (by omega), e2]; omega
    generalize getStep x2 (byteOf n 1) = x3 at e3 ⊢
    rw [getStep_nat _ _ (by omega), e3]; omega
  rw [BitVec.toInt_eq_toNat_cond, e, if_pos (by omega)]
  omega
theorem num_cons {size : Nat} (g : List UInt8 → Int) (x : Int) (r : List UInt8) (i : Nat) : g (((be size x ++ r).drop (size * (i + 1))).take size) = g ((r.drop (size * i)).take size) := by
  rw [show size * (i + 1) = (be size x).length + size * i by rw [be_length]; rw [Nat.mul_add]; omega, List.drop_append, List.drop_of_length_le (by omega), List.nil_append]
  congr 3
  omega
theorem num_head {size : Nat} (g : List UInt8 → Int) (x : Int) (r : List UInt8) : g (((be size x ++ r).drop (size * 0)).take size) = g (be size x) := by
  rw [Nat.mul_zero, List.drop_zero, List.take_left' (be_length _ _)]
theorem nums_packs {size : Nat} (g : List UInt8 → Int) (l : List Int) (hg : ∀ x ∈ l, g (be size x) = x) : ((List.range l.length).map fun i => g (((packs size l).drop (size * i)).take size)) = l := by
  induction l with
  | nil => rfl
  | cons x l ih =>
    have ih := ih fun y hy => hg y (List.mem_cons_of_mem _ hy)
    rw [List.length_cons, List.range_succ_eq_map, List.map_cons, List.map_map]
    have ep : packs size (x :: l) = be size x ++ packs size l := rfl
    rw [ep]
    congr 1
    · rw [num_head g x]; exact hg x (List.mem_cons_self ..)
    · refine Eq.trans (List.map_congr_left fun i _ => ?_) ih
      exact num_cons g x _ i
theorem numsOf_packs (l : List Int) (hl : ∀ x ∈ l, I64 x) : numsOf (packs 8 l) l.length = l := by
  refine nums_packs (fun b => (getOf b).toInt) l fun x hx => ?_
  have := num8_be x (hl x hx)
  unfold num8 at this
  rw [Nat.mul_zero, List.drop_zero, List.take_of_length_le (by rw [be_length]; exact Nat.le_refl _)] at this
  exact this
theorem numsK_packs (l : List Int) (hl : ∀ x ∈ l, 0 ≤ x ∧ x ≤ 4294967295) : numsK (packs 4 l) l.length = l :=
  nums_packs (fun b => (getOf b).toInt) l fun x hx => getOf_be4 x (hl x hx).1 (hl x hx).2
theorem splitOf_key (t : UInt8) (l : List Int) (hl : l.length ≤ 7) : splitOf (keyOf t l) = some (t, l.map clampK) := by
  have e : keyOf t l = t :: packs 4 (l.map clampK) := by unfold keyOf; rw [List.take_of_length_le hl]
  rw [e]
  have hp : (packs 4 (l.map clampK)).length = l.length * 4 := by rw [packs_length, List.length_map]
  simp only [splitOf]
  rw [if_pos (by omega), hp, show l.length * 4 / 4 = (l.map clampK).length by rw [List.length_map]; omega, numsK_packs]
  intro x hx
  obtain ⟨y, -, rfl⟩ := List.mem_map.1 hx
  exact clampK_range y
theorem key_inj {t t' : UInt8} {l l' : List Int} (hl : l.length ≤ 7) (hl' : l'.length ≤ 7) (h : keyOf t l = keyOf t' l') : t = t' ∧ l.map clampK = l'.map clampK := by
  have := congrArg splitOf h
  rw [splitOf_key t l hl, splitOf_key t' l' hl'] at this
  simpa using this
theorem clampK_id {n : Int} (h0 : 0 ≤ n) (h1 : n ≤ 4294967295) : clampK n = n := by unfold clampK; split <;> split <;> omega
theorem stateOf_turn (f : Fun) (n st m : Int) (hst : st = 1 ∨ st = 2) : stateOf (yrTurn f n st) m = if yrK m = yrK n then st else stateOf f m := by
  unfold stateOf yrTurn
  rw [readOf_upd _ _ _ _ (by unfold I64; omega)]
  by_cases hk : yrK m = yrK n
  · simp [hk, hst]
  · simp [hk]
theorem yrTurn_n (f : Fun) (n st : Int) : (yrTurn f n st).n = f.n + 1 := rfl
theorem open_n (f : Fun) (n : Int) : (openOf f n).1.n ≤ f.n + 1 := by 
  unfold openOf
  repeat' split
  all_goals simp [yrTurn_n]
theorem shut_n (f : Fun) (n : Int) : (shutOf f n).1.n ≤ f.n + 1 := by unfold shutOf; split <;> simp [yrTurn_n]
/-- The years that are there. -/
def yearOf (f : Fun) (p : KV) : Option Int := match splitOf p.1 with
  | some (_, [n]) => if stateOf f n = 0 then none else some n
  | _ => none
def allY (f : Fun) (l : List KV) : List Int := l.filterMap (yearOf f)
end Go.Proofs.Lx
/- Years: those that are there; the law YearsStay. -/
set_option linter.unusedSimpArgs false
set_option linter.unusedVariables false
namespace Go.Proofs.Lx
open Go.Vm
attribute [local irreducible] awpArr awpBin awpMake awpAppend awpCvX awpStrOf awpBinX awpSlice awpBS awpStore awpAlloc awpCopy awpIndex awpDraw awpIdxX awpFa awpField awpLookup awpUpdate awpDelete awpClear awpRange awpNext awpEntry awpBuild awpClearS awpIdxL
theorem isView.klen {h : Heap} {V : VId} {f : Fun} (hV : isView h V f) {k l : List UInt8} (hf : f k = some l) : k.length ≤ 32 := by
  obtain ⟨chg, clk, mem, clk2, h1, h2, h3, h4, h5, h6, h7, h8, hk⟩ := hV
  rw [h7, nowOf] at hf
  split at hf
  · rename_i e he
    obtain ⟨h9, h10⟩ := (mget_iff (fun e he => (h5.1 e he).1) h6.1.1.2).1 he
    rw [← h10]; exact hk e (.inl h9)
  · cases he : mget (strK k) mem with
    | none => rw [he] at hf; cases hf
    | some e =>
      obtain ⟨h9, h10⟩ := (mget_iff (fun e he => (h5.2 e he).1) h6.2.1.2).1 he
      rw [← h10]; exact hk e (.inr h9)
def yAllSpec : Vm.Spec := fun args h Q => ∃ V f, args = [.ptr V.iv 0] ∧ isView h V f ∧ f.n ≤ 536870912 ∧ ∀ l h', ScanIs f [89] l → l.length ≤ 2 * f.n → isView h' V f → Same h h' [] → Q (.own true 3 1 ((allY f l).map encI)) h'
set_option maxRecDepth 20000 in
theorem does_yAll : Does Tryz.prog 33 yAllSpec := by
  refine does_of_awp (good_cons does_scan (good_cons does_split (good_cons does_yState good_nil))) Tryz.func33 rfl (by decide +kernel) (by decide +kernel) ?_
  rintro args h Q ⟨V, f, rfl, hV, hfn, hq⟩
  refine ⟨by simp [Tryz.f33], ?_⟩
  rw [awpFunc_some (by rfl)]
  simp -dsimp only [Vm.E, List.lookup, Nat.reduceAdd, Nat.reduceBEq, Int.reduceBNe, Int.reduceBEq, Bool.true_beq, Bool.false_beq, Vm.S, Nat.reduceLeDiff, es45]
  refine bs_intro zr5 (by decide) (by decide) rfl rfl (by simp [solid, AV.cells]) ?_
  simp -dsimp only [Vm.E, List.lookup, Nat.reduceAdd, Nat.reduceBEq, Int.reduceBNe, Int.reduceBEq, Bool.true_beq, Bool.false_beq, Vm.S, Nat.reduceLeDiff]
  refine call_one (S := scanSpec) rfl _ GaL.rfl ⟨V, f, [89], rfl, by simp, hV, hfn, fun l h1 hsc hln hV1 hs1 => ?_⟩
  simp -dsimp only [Vm.E, List.lookup, Nat.reduceAdd, Nat.reduceBEq, Int.reduceBNe, Int.reduceBEq, Bool.true_beq, Bool.false_beq, Tryz.underlying40]
  refine awp_loop (fun m s h' => ∃ i : Nat, i + m = l.length ∧ h' = h1 ∧ s = mk [(0, .ptr V.iv 0), (3, .own true 3 1 ((allY f (l.take i)).map encI)), (11, .own true 47 2 (l.map kvAv)), (12, .v (.int .i64 l.length)), (13, .v (.int .i64 i))])
    l.length _ (le_mk _ ?_) ⟨0, by omega, rfl, rfl⟩ ?_
  · simp only [List.forall_mem_cons, List.not_mem_nil, false_imp_iff, implies_true, and_true]
    simp -dsimp only [Vm.E, List.lookup, Nat.reduceAdd, Nat.reduceBEq, Int.reduceBNe, Int.reduceBEq, Bool.true_beq, Bool.false_beq]
    exact ⟨.refl _, .nil _ _ _ (by decide), .refl _, .refl _, .refl _⟩
  · rintro m s h' ⟨i, hi, rfl, rfl⟩
    simp -dsimp only [Vm.E, List.lookup, Nat.reduceAdd, Nat.reduceBEq, Int.reduceBNe, Int.reduceBEq, Bool.true_beq, Bool.false_beq]
    refine cond_intro (fun hcc => ?_) (fun hcc => ?_)
    · have hlt : i < l.length := by have := of_decide_eq_true hcc; omega
      have hw : IntKind.i64.wrap ((i : Int) + 1) = ((i + 1 : Nat) : Int) := by rw [wrap_i64 (by omega) (by omega)]; simp
      have hget : (l.map kvAv)[i]? = some (kvAv l[i]) := by simp [hlt]
      have est : allY f (l.take (i + 1)) = allY f (l.take i) ++ (yearOf f l[i]).toList := by
        unfold allY
        rw [List.take_succ_eq_append_getElem hlt, List.filterMap_append]
        congr 1
      have hal : (allY f (l.take i)).length ≤ i := by
        unfold allY
        exact Nat.le_trans (List.length_filterMap_le ..) (by rw [List.length_take]; omega)
      have hkl : l[i].1.length ≤ 32 := hV.klen ((hsc.2 l[i].1 l[i].2).1 (List.getElem_mem hlt)).1
      generalize l[i] = p at hget est hkl
      obtain ⟨k, v⟩ := p
      have hkl : k.length ≤ 32 := hkl
      unfold yearOf at est
      simp -dsimp only [Vm.E, List.lookup, Nat.reduceAdd, Nat.reduceBEq, Int.reduceBNe, Int.reduceBEq, Bool.true_beq, Bool.false_beq, Vm.S, Nat.reduceLeDiff, es40, as40]
      refine idxO_intro (by omega) (by simp; omega) ?_
      simp -dsimp only [Vm.E, List.lookup, Nat.reduceAdd, Nat.reduceBEq, Int.reduceBNe, Int.reduceBEq, Bool.true_beq, Bool.false_beq, Vm.S, Nat.reduceLeDiff, Int.toNat_natCast]
      refine eltA_intro hget ?_
      simp only [kvAv]
      simp -dsimp only [Vm.E, List.lookup, Nat.reduceAdd, Nat.reduceBEq, Int.reduceBNe, Int.reduceBEq, Bool.true_beq, Bool.false_beq, Vm.S, Nat.reduceLeDiff, AV.cells, List.drop_zero, of47, al47, sz47, fo47_0, of45]
      refine call_one (S := splitSpec) rfl _ GaL.rfl ⟨k, by omega, rfl, fun hs => ?_, fun t l' hs => ?_⟩
      · simp only at est
        rw [hs] at est
        simp only at est
        unfold noKey
        simp -dsimp only [Vm.E, List.lookup, Nat.reduceAdd, Nat.reduceBEq, Int.reduceBNe, Int.reduceBEq, Bool.true_beq, Bool.false_beq]
        refine kept_intro ⟨l.length - (i + 1), by omega, _, le_mk [(0, .ptr V.iv 0), (3, .own true 3 1 ((allY f (l.take (i + 1))).map encI)), (11, .own true 47 2 (l.map kvAv)), (12, .v (.int .i64 l.length)), (13, .v (.int .i64 (i + 1 : Nat)))] ?_, i + 1, by omega, rfl, rfl⟩
        simp only [List.forall_mem_cons, List.not_mem_nil, false_imp_iff, implies_true, and_true, est, Option.toList, List.append_nil, List.map_append, List.map_cons, List.map_nil]
        simp -dsimp only [Vm.E, List.lookup, Nat.reduceAdd, Nat.reduceBEq, Int.reduceBNe, Int.reduceBEq, Bool.true_beq, Bool.false_beq, hw]
        exact ⟨.refl _, .refl _, .refl _, .refl _, .refl _⟩
      · simp only at est
        rw [hs] at est
        by_cases d1 : ¬ l'.length = 1
        · have c1 : ((l'.length : Int) == 1) = false := by simp only [beq_eq_false_iff_ne]; omega
          have est : allY f (l.take (i + 1)) = allY f (l.take i) := by
            rw [est]
            split
            · rename_i h2; cases h2; exact absurd rfl d1
            · simp
          simp -dsimp only [Vm.E, List.lookup, Nat.reduceAdd, Nat.reduceBEq, Int.reduceBNe, Int.reduceBEq, Bool.true_beq, Bool.false_beq, Vm.S, Nat.reduceLeDiff, Tryz.underlying41, c1]
          refine kept_intro ⟨l.length - (i + 1), by omega, _, le_mk [(0, .ptr V.iv 0), (3, .own true 3 1 ((allY f (l.take (i + 1))).map encI)), (11, .own true 47 2 (l.map kvAv)), (12, .v (.int .i64 l.length)), (13, .v (.int .i64 (i + 1 : Nat)))] ?_, i + 1, by omega, rfl, rfl⟩
          simp only [List.forall_mem_cons, List.not_mem_nil, false_imp_iff, implies_true, and_true, est, Option.toList, List.append_nil, List.map_append, List.map_cons, List.map_nil]
          simp -dsimp only [Vm.E, List.lookup, Nat.reduceAdd, Nat.reduceBEq, Int.reduceBNe, Int.reduceBEq, Bool.true_beq, Bool.false_beq, hw]
          exact ⟨.refl _, .refl _, .refl _, .refl _, .refl _⟩
        · have d1 : l'.length = 1 := by omega
          obtain ⟨n, rfl⟩ : ∃ n, l' = [n] := by
            match l', d1 with
            | [n], _ => exact ⟨n, rfl⟩
          have c1 : (((1 : Nat) : Int) == 1) = true := rfl
          simp only at est
          simp -dsimp only [Vm.E, List.lookup, Nat.reduceAdd, Nat.reduceBEq, Int.reduceBNe, Int.reduceBEq, Bool.true_beq, Bool.false_beq, Vm.S, Nat.reduceLeDiff, Tryz.underlying41, es41, as41, c1, List.length_cons, List.length_nil, List.map_cons, List.map_nil, encI]
          refine idxO_intro (by decide) (by simp) ?_
          have g0 : ([AV.v (.int .i64 n)] : List AV)[(0 : Int).toNat]? = some (.v (.int .i64 n)) := rfl
          simp -dsimp only [Vm.E, List.lookup, Nat.reduceAdd, Nat.reduceBEq, Int.reduceBNe, Int.reduceBEq, Bool.true_beq, Bool.false_beq, Vm.S, Nat.reduceLeDiff]
          refine eltA_intro g0 ?_
          simp -dsimp only [Vm.E, List.lookup, Nat.reduceAdd, Nat.reduceBEq, Int.reduceBNe, Int.reduceBEq, Bool.true_beq, Bool.false_beq, Vm.S, Nat.reduceLeDiff, AV.cells, List.drop_zero, of3]
          refine call_one (S := yStateSpec) rfl _ GaL.rfl ⟨V, f, n, rfl, hV1, ?_⟩
          simp -dsimp only [Vm.E, List.lookup, Nat.reduceAdd, Nat.reduceBEq, Int.reduceBNe, Int.reduceBEq, Bool.true_beq, Bool.false_beq, Vm.S, Nat.reduceLeDiff]
          by_cases d2 : stateOf f n = 0
          · have c2 : (stateOf f n != 0) = false := by simpa using d2
            rw [if_pos d2] at est
            simp -dsimp only [Vm.E, List.lookup, Nat.reduceAdd, Nat.reduceBEq, Int.reduceBNe, Int.reduceBEq, Bool.true_beq, Bool.false_beq, Vm.S, Nat.reduceLeDiff, c2]
            refine kept_intro ⟨l.length - (i + 1), by omega, _, le_mk [(0, .ptr V.iv 0), (3, .own true 3 1 ((allY f (l.take (i + 1))).map encI)), (11, .own true 47 2 (l.map kvAv)), (12, .v (.int .i64 l.length)), (13, .v (.int .i64 (i + 1 : Nat)))] ?_, i + 1, by omega, rfl, rfl⟩
            simp only [List.forall_mem_cons, List.not_mem_nil, false_imp_iff, implies_true, and_true, est, Option.toList, List.append_nil, List.map_append, List.map_cons, List.map_nil, encI]
            simp -dsimp only [Vm.E, List.lookup, Nat.reduceAdd, Nat.reduceBEq, Int.reduceBNe, Int.reduceBEq, Bool.true_beq, Bool.false_beq, hw]
            exact ⟨.refl _, .refl _, .refl _, .refl _, .refl _⟩
          · have c2 : (stateOf f n != 0) = true := by simpa using d2
            rw [if_neg d2] at est
            simp -dsimp only [Vm.E, List.lookup, Nat.reduceAdd, Nat.reduceBEq, Int.reduceBNe, Int.reduceBEq, Bool.true_beq, Bool.false_beq, Vm.S, Nat.reduceLeDiff, c2, es41, as41]
            refine idxO_intro (by decide) (by simp) ?_
            simp -dsimp only [Vm.E, List.lookup, Nat.reduceAdd, Nat.reduceBEq, Int.reduceBNe, Int.reduceBEq, Bool.true_beq, Bool.false_beq, Vm.S, Nat.reduceLeDiff]
            refine eltA_intro g0 ?_
            simp -dsimp only [Vm.E, List.lookup, Nat.reduceAdd, Nat.reduceBEq, Int.reduceBNe, Int.reduceBEq, Bool.true_beq, Bool.false_beq, Vm.S, Nat.reduceLeDiff, AV.cells, List.drop_zero, of3, es41]
            refine bs_intro zr3 (by decide) (by decide) rfl rfl (by simp [solid, AV.cells]) ?_
            simp -dsimp only [Vm.E, List.lookup, Nat.reduceAdd, Nat.reduceBEq, Int.reduceBNe, Int.reduceBEq, Bool.true_beq, Bool.false_beq, append_own ei41]
            refine app_sl Tryz.underlying41 (by simp [AV.cells]) (by simp only [List.length_map, List.length_cons, List.length_nil]; omega) ?_
            simp -dsimp only [Vm.E, List.lookup, Nat.reduceAdd, Nat.reduceBEq, Int.reduceBNe, Int.reduceBEq, Bool.true_beq, Bool.false_beq]
            refine kept_intro ⟨l.length - (i + 1), by omega, _, le_mk [(0, .ptr V.iv 0), (3, .own true 3 1 ((allY f (l.take (i + 1))).map encI)), (11, .own true 47 2 (l.map kvAv)), (12, .v (.int .i64 l.length)), (13, .v (.int .i64 (i + 1 : Nat)))] ?_, i + 1, by omega, rfl, rfl⟩
            simp only [List.forall_mem_cons, List.not_mem_nil, false_imp_iff, implies_true, and_true, est, Option.toList, List.append_nil, List.map_append, List.map_cons, List.map_nil, encI]
            simp -dsimp only [Vm.E, List.lookup, Nat.reduceAdd, Nat.reduceBEq, Int.reduceBNe, Int.reduceBEq, Bool.true_beq, Bool.false_beq, hw]
            exact ⟨.refl _, .refl _, .refl _, .refl _, .refl _⟩
    · have hge : ¬ i < l.length := by have := of_decide_eq_false hcc; omega
      simp -dsimp only [Vm.E, List.lookup, Nat.reduceAdd, Nat.reduceBEq, Int.reduceBNe, Int.reduceBEq, Bool.true_beq, Bool.false_beq, Tryz.results33]
      rw [List.take_of_length_le (by omega)]
      exact hq l h' hsc hln hV1 hs1
end Go.Proofs.Lx
/- The law YearsStay. -/
set_option linter.unusedSimpArgs false
set_option linter.unusedVariables false
namespace Go.Proofs.Lx
open Go.Vm
attribute [local irreducible] awpArr awpBin awpMake awpAppend awpCvX awpStrOf awpBinX awpSlice awpBS awpStore awpAlloc awpCopy awpIndex awpDraw awpIdxX awpFa awpField awpLookup awpUpdate awpDelete awpClear awpRange awpNext awpEntry awpBuild awpClearS awpIdxL
/-- A statement's answer. -/
def trueSpec : Vm.Spec := fun args h Q => args = [] ∧ ∀ h', Q (.v (.bool true)) h'
theorem state_new (n : Int) : stateOf noF n = 0 := by unfold stateOf readOf; simp [noF]
theorem check_turn (f : Fun) (n st m : Int) (hst : st = 1 ∨ st = 2) : checkY (yrTurn f n st) m = if yrK m = yrK n then (if st = 1 then 0 else 13) else checkY f m := by
  unfold checkY
  rw [stateOf_turn _ _ _ _ hst]
  by_cases h : yrK m = yrK n
  · simp only [h, if_true]; rcases hst with rfl | rfl <;> simp
  · simp only [h, if_false]
theorem yrK_ne {a b : Int} (h : a ≠ b) (ha : 0 ≤ a ∧ a ≤ 4294967295) (hb : 0 ≤ b ∧ b ≤ 4294967295) : yrK a ≠ yrK b := fun e => by
  have := (key_inj (by simp) (by simp) e).2
  simp only [List.map_cons, List.map_nil, clampK_id ha.1 ha.2, clampK_id hb.1 hb.2] at this
  exact h (by simpa using this)
set_option maxRecDepth 20000 in
theorem does_law22awake : Does Tryz.prog 28 trueSpec := by
  refine does_of_awp (good_cons does_vnew (good_cons does_yOpen (good_cons does_yCheck (good_cons does_yShut good_nil)))) Tryz.func28 rfl (by decide +kernel) (by decide +kernel) ?_
  rintro args h Q ⟨rfl, hq⟩
  refine ⟨by simp [Tryz.f28], ?_⟩
  rw [awpFunc_some (by rfl)]
  simp -dsimp only [Vm.E, List.lookup, Nat.reduceAdd, Nat.reduceBEq, Int.reduceBNe, Int.reduceBEq, Bool.true_beq, Bool.false_beq]
  refine call_one (S := vnewSpec) rfl _ GaL.rfl ⟨rfl, ?_⟩
  have hV := isView_new h
  generalize hh : (h ++ [AObj.map [] 0, AObj.map [] 0, vobj h.length (h.length + 1)]) = h0 at hV ⊢
  obtain ⟨V, hVe⟩ : ∃ V : VId, V = ⟨h.length + 2, h.length, h.length + 1⟩ := ⟨_, rfl⟩
  have hVi : h.length + 2 = V.iv := by rw [hVe]
  rw [← hVe] at hV
  rw [hVi]
  clear hh hVe hVi
  simp -dsimp only [Vm.E, List.lookup, Nat.reduceAdd, Nat.reduceBEq, Int.reduceBNe, Int.reduceBEq, Bool.true_beq, Bool.false_beq]
  refine nil_pointer Tryz.underlying26 ?_
  simp -dsimp only [Vm.E, List.lookup, Nat.reduceAdd, Nat.reduceBEq, Int.reduceBNe, Int.reduceBEq, Bool.true_beq, Bool.false_beq]
  have o1 : openOf noF 2020 = (yrTurn noF 2020 1, 0) := by unfold openOf; rw [state_new]; rfl
  refine call_one (S := yOpenSpec) rfl _ GaL.rfl ⟨V, _, 2020, rfl, hV, fun h1 hV1 _ => ?_⟩
  rw [o1] at hV1 ⊢
  simp -dsimp only [Vm.E, List.lookup, Nat.reduceAdd, Nat.reduceBEq, Int.reduceBNe, Int.reduceBEq, Bool.true_beq, Bool.false_beq]
  refine call_one (S := yCheckSpec) rfl _ GaL.rfl ⟨V, _, 2020, rfl, hV1, ?_⟩
  have c1 : checkY (yrTurn noF 2020 1) 2020 = 0 := by rw [check_turn _ _ _ _ (.inl rfl)]; rfl
  have o2 : shutOf (yrTurn noF 2020 1) 2020 = (yrTurn (yrTurn noF 2020 1) 2020 2, 0) := by unfold shutOf; rw [c1]; rfl
  rw [c1]
  simp -dsimp only [Vm.E, List.lookup, Nat.reduceAdd, Nat.reduceBEq, Int.reduceBNe, Int.reduceBEq, Bool.true_beq, Bool.false_beq]
  refine call_one (S := yShutSpec) rfl _ GaL.rfl ⟨V, _, 2020, rfl, hV1, fun h2 hV2 _ => ?_⟩
  simp only [o2] at hV2 ⊢
  simp -dsimp only [Vm.E, List.lookup, Nat.reduceAdd, Nat.reduceBEq, Int.reduceBNe, Int.reduceBEq, Bool.true_beq, Bool.false_beq]
  refine call_one (S := yCheckSpec) rfl _ GaL.rfl ⟨V, _, 2020, rfl, hV2, ?_⟩
  have c2 : checkY (yrTurn (yrTurn noF 2020 1) 2020 2) 2020 = 13 := by rw [check_turn _ _ _ _ (.inr rfl)]; rfl
  rw [c2]
  simp -dsimp only [Vm.E, List.lookup, Nat.reduceAdd, Nat.reduceBEq, Int.reduceBNe, Int.reduceBEq, Bool.true_beq, Bool.false_beq]
  refine call_one (S := yCheckSpec) rfl _ GaL.rfl ⟨V, _, 2021, rfl, hV2, ?_⟩
  have hne : ¬ yrK 2021 = yrK 2020 := yrK_ne (by decide) (by decide) (by decide)
  have c3 : checkY (yrTurn (yrTurn noF 2020 1) 2020 2) 2021 = 7 := by
    rw [check_turn _ _ _ _ (.inr rfl), if_neg hne, check_turn _ _ _ _ (.inl rfl), if_neg hne]; unfold checkY; rw [state_new]; rfl
  rw [c3]
  simp -dsimp only [Vm.E, List.lookup, Nat.reduceAdd, Nat.reduceBEq, Int.reduceBNe, Int.reduceBEq, Bool.true_beq, Bool.false_beq]
  refine call_one (S := yOpenSpec) rfl _ GaL.rfl ⟨V, _, 2020, rfl, hV2, fun h3 hV3 _ => ?_⟩
  have o3 : (openOf (yrTurn (yrTurn noF 2020 1) 2020 2) 2020).2 = 8 := by
    unfold openOf; rw [stateOf_turn _ _ _ _ (.inr rfl), if_pos rfl]; rfl
  rw [o3]
  simp -dsimp only [Vm.E, List.lookup, Nat.reduceAdd, Nat.reduceBEq, Int.reduceBNe, Int.reduceBEq, Bool.true_beq, Bool.false_beq, Tryz.results28]
  exact hq _
theorem idx_map {α : Type} (g : α → AV) (l : List α) (i : Nat) (hi : i < l.length) {e sz : Nat} {K : AV → Prop} (hK : K (.eptr (g l[i]).cells)) : awpIdx (some (e, sz)) (.sl sz (l.map g)) (.v (.int .i64 i)) K := by
  refine idx_intro (xs := l.map g) (by simp [asSl]) (by simp; omega) (fun x hx => ?_)
  have hx' : x = g l[i] := by simp [hi] at hx; exact hx.symm
  subst hx'; exact hK
abbrev Do := Int × Int
def doAv (p : Do) : AV := .agg [.v (.int .i64 p.1), .v (.int .i64 p.2)]
theorem isA_list {α : Type} {e : Sh} (P : α → Prop) (g : α → AV) (hg : ∀ y, IsA e y → ∃ a, P a ∧ y = g a) {x : AV} (h : IsA (.sl e) x) : ∃ l : List α, l.length ≤ maxLen ∧ x = .sl e.n (l.map g) ∧ ∀ a ∈ l, P a := by
  simp only [IsA] at h
  obtain ⟨xs, hl, rfl, hx⟩ := h
  have : ∃ l : List α, xs = l.map g ∧ ∀ a ∈ l, P a := by
    clear hl
    induction xs with
    | nil => exact ⟨[], rfl, by simp⟩
    | cons y r ih =>
      obtain ⟨l, rfl, hl⟩ := ih fun z hz => hx z (List.mem_cons_of_mem _ hz)
      obtain ⟨a, ha, rfl⟩ := hg y (hx y (List.mem_cons_self ..))
      exact ⟨a :: l, rfl, fun b hb => by
        rcases List.mem_cons.1 hb with rfl | hb
        · exact ha
        · exact hl b hb⟩
  obtain ⟨l, rfl, h1⟩ := this
  exact ⟨l, by simpa using hl, rfl, h1⟩
theorem isA_int {x : AV} (h : IsA (.int .i64) x) : ∃ n, I64 n ∧ x = .v (.int .i64 n) := by
  simp only [IsA] at h
  obtain ⟨n, hn, rfl⟩ := h
  refine ⟨n, ?_, rfl⟩
  simp [Lit.wf, IntKind.min, IntKind.max, IntKind.signed, IntKind.bits] at hn
  unfold I64; omega
theorem isA_do {y : AV} (h : IsA (.agg [.int .i64, .int .i64]) y) : ∃ p : Do, (I64 p.1 ∧ I64 p.2) ∧ y = doAv p := by
  simp only [IsA, IsAll] at h
  obtain ⟨ys, ⟨y1, r1, rfl, h1, y2, r2, rfl, h2, rfl⟩, rfl⟩ := h
  obtain ⟨a, ha, rfl⟩ := isA_int (by simpa only [IsA] using h1)
  obtain ⟨b, hb, rfl⟩ := isA_int (by simpa only [IsA] using h2)
  exact ⟨(a, b), ⟨ha, hb⟩, rfl⟩
end Go.Proofs.Lx
/- Numbers as bytes: the reference's functions. -/
set_option linter.unusedSimpArgs false
set_option linter.unusedVariables false
namespace Go.Proofs.Lx
open Go.Vm
attribute [local irreducible] awpMake awpAppend awpCvX awpStrOf awpBinX awpSlice awpBS awpStore awpAlloc awpCopy awpIndex awpDraw awpIdxX awpFa awpField awpLookup awpUpdate awpDelete awpClear awpRange awpNext awpEntry awpBuild
theorem does_refSized : Does Tryz.prog 236 sizedSpec := by
  refine does_of_awp good_nil Tryz.func236 rfl (by decide +kernel) (by decide +kernel) ?_
  rintro args h Q ⟨n, rfl, hq⟩
  refine ⟨by simp [Tryz.f236], ?_⟩
  rw [awpFunc_some (by rfl)]
  unfold sized at hq
  simp -dsimp only [Vm.E, List.lookup, Nat.reduceAdd, Nat.reduceBEq, Int.reduceBNe, Int.reduceBEq, Bool.true_beq, Bool.false_beq]
  cases h1 : (n == 1) <;> cases h2 : (n == 2) <;> cases h4 : (n == 4) <;> cases h8 : (n == 8) <;>
    simp -dsimp only [Vm.E, List.lookup, Nat.reduceAdd, Nat.reduceBEq, Int.reduceBNe, Int.reduceBEq, Bool.true_beq, Bool.false_beq, h1, h2, h4, h8, Tryz.results236] <;> simpa [h1, h2, h4, h8] using hq
def powSpec : Vm.Spec := fun args h Q => ∃ k : Nat, k ≤ 7 ∧ args = [.v (.int .i64 k)] ∧ Q (.v (.int .i64 (256 ^ k : Nat))) h
theorem pow_le {i : Nat} (h : i ≤ 7) : 256 ^ i ≤ 256 ^ 7 := Nat.pow_le_pow_right (by decide) h
theorem does_pow : Does Tryz.prog 237 powSpec := by
  refine does_of_awp good_nil Tryz.func237 rfl (by decide +kernel) (by decide +kernel) ?_
  rintro args h Q ⟨k, hk, rfl, hq⟩
  refine ⟨by simp [Tryz.f237], ?_⟩
  rw [awpFunc_some (by rfl)]
  simp -dsimp only [Vm.E, List.lookup, Nat.reduceAdd, Nat.reduceBEq, Int.reduceBNe, Int.reduceBEq, Bool.true_beq, Bool.false_beq]
  refine awp_loop (fun n s h' => ∃ i : Nat, i + n = k ∧ h' = h ∧ s = mk [(0, .v (.int .i64 k)), (3, .v (.int .i64 (256 ^ i : Nat))), (4, .v (.int .i64 i))])
    k _ (le_mk _ ?_) ⟨0, by omega, rfl, rfl⟩ ?_
  · simp [init_get]
  · rintro n s h' ⟨i, hi, rfl, rfl⟩
    simp -dsimp only [Vm.E, List.lookup, Nat.reduceAdd, Nat.reduceBEq, Int.reduceBNe, Int.reduceBEq, Bool.true_beq, Bool.false_beq]
    refine cond_intro (fun hc => ?_) (fun hc => ?_)
    · have hlt : i < k := by have := of_decide_eq_true hc; omega
      simp -dsimp only [Vm.E, List.lookup, Nat.reduceAdd, Nat.reduceBEq, Int.reduceBNe, Int.reduceBEq, Bool.true_beq, Bool.false_beq]
      refine kept_intro ⟨k - (i + 1), by omega, _, le_mk [(0, .v (.int .i64 k)), (3, .v (.int .i64 (256 ^ (i + 1) : Nat))), (4, .v (.int .i64 (i + 1 : Nat)))] ?_, i + 1, by omega, rfl, rfl⟩
      simp only [List.forall_mem_cons, List.not_mem_nil, false_imp_iff, implies_true, and_true]
      simp -dsimp only [Vm.E, List.lookup, Nat.reduceAdd, Nat.reduceBEq, Int.reduceBNe, Int.reduceBEq, Bool.true_beq, Bool.false_beq]
      have e : (((256 ^ i : Nat) : Int) * 256) = ((256 ^ (i + 1) : Nat) : Int) := by rw [Nat.pow_succ]; simp
      have hp := pow_le (show i + 1 ≤ 7 by omega)
      have hp2 : (256 : Nat) ^ 7 = 72057594037927936 := by decide
      generalize hgg : 256 ^ (i + 1) = pw at hp
      rw [e, hgg, wrap_i64 (by omega) (by omega), wrap_i64 (by omega) (by omega)]
      exact ⟨.refl _, .refl _, .refl _⟩
    · have hge : ¬ i < k := by have := of_decide_eq_false hc; omega
      simp -dsimp only [Vm.E, List.lookup, Nat.reduceAdd, Nat.reduceBEq, Int.reduceBNe, Int.reduceBEq, Bool.true_beq, Bool.false_beq, Tryz.results237]
      have : i = k := by omega
      subst this
      exact hq
theorem does_refRight : Does Tryz.prog 204 rightSpec := by
  refine does_of_awp (good_cons does_refSized (good_cons does_pow good_nil)) Tryz.func204 rfl (by decide +kernel) (by decide +kernel) ?_
  rintro args h Q ⟨n, size, hn0, hn1, rfl, hq⟩
  refine ⟨by simp [Tryz.f204], ?_⟩
  rw [awpFunc_some (by rfl)]
  unfold fits at hq
  simp -dsimp only [Vm.E, List.lookup, Nat.reduceAdd, Nat.reduceBEq, Int.reduceBNe, Int.reduceBEq, Bool.true_beq, Bool.false_beq]
  cases h8 : (size == 8)
  · simp -dsimp only [Vm.E, List.lookup, Nat.reduceAdd, Nat.reduceBEq, Int.reduceBNe, Int.reduceBEq, Bool.true_beq, Bool.false_beq, h8]
    refine call_one (S := sizedSpec) rfl _ GaL.rfl ⟨_, rfl, ?_⟩
    simp -dsimp only [Vm.E, List.lookup, Nat.reduceAdd, Nat.reduceBEq, Int.reduceBNe, Int.reduceBEq, Bool.true_beq, Bool.false_beq]
    cases hs : sized size
    · simp -dsimp only [Vm.E, List.lookup, Nat.reduceAdd, Nat.reduceBEq, Int.reduceBNe, Int.reduceBEq, Bool.true_beq, Bool.false_beq, Tryz.results204]
      simpa [h8, hs] using hq
    · simp -dsimp only [Vm.E, List.lookup, Nat.reduceAdd, Nat.reduceBEq, Int.reduceBNe, Int.reduceBEq, Bool.true_beq, Bool.false_beq]
      cases h0 : decide (n ≥ 0)
      · simp -dsimp only [Vm.E, List.lookup, Nat.reduceAdd, Nat.reduceBEq, Int.reduceBNe, Int.reduceBEq, Bool.true_beq, Bool.false_beq, Tryz.results204]
        have : ¬ 0 ≤ n := by have := of_decide_eq_false h0; omega
        simpa [h8, hs, this] using hq
      · have h0' : 0 ≤ n := by have := of_decide_eq_true h0; omega
        simp -dsimp only [Vm.E, List.lookup, Nat.reduceAdd, Nat.reduceBEq, Int.reduceBNe, Int.reduceBEq, Bool.true_beq, Bool.false_beq]
        have hk : ∃ k : Nat, k ≤ 7 ∧ size = k ∧ size.toNat = k := by
          rcases sized_cases hs with rfl | rfl | rfl | rfl
          · exact ⟨1, by decide, rfl, rfl⟩
          · exact ⟨2, by decide, rfl, rfl⟩
          · exact ⟨4, by decide, rfl, rfl⟩
          · cases h8
        obtain ⟨k, hk7, hk, hk2⟩ := hk
        refine call_one (S := powSpec) rfl _ (GaL.cons (.refl _) .nil) ⟨k, hk7, by rw [hk], ?_⟩
        simp -dsimp only [Vm.E, List.lookup, Nat.reduceAdd, Nat.reduceBEq, Int.reduceBNe, Int.reduceBEq, Bool.true_beq, Bool.false_beq, Tryz.results204]
        have e : ((256 : Int) ^ k) = ((256 ^ k : Nat) : Int) := by simp
        rw [hk2, e] at hq
        simpa [h8, hs, h0'] using hq
  · simp -dsimp only [Vm.E, List.lookup, Nat.reduceAdd, Nat.reduceBEq, Int.reduceBNe, Int.reduceBEq, Bool.true_beq, Bool.false_beq, h8, Tryz.results204]
    simpa [h8] using hq
theorem does_refPut : Does Tryz.prog 160 putSpec := by
  refine does_of_awp (good_cons does_refRight good_nil) Tryz.func160 rfl (by decide +kernel) (by decide +kernel) ?_
  rintro args h Q ⟨l, n, size, hl, hn0, hn1, rfl, hq⟩
  refine ⟨by simp [Tryz.f160], ?_⟩
  rw [awpFunc_some (by rfl)]
  simp -dsimp only [Vm.E, List.lookup, Nat.reduceAdd, Nat.reduceBEq, Int.reduceBNe, Int.reduceBEq, Bool.true_beq, Bool.false_beq, Tryz.underlying45, append_nil ei45]
  refine app_sl Tryz.underlying45 (fun c hc => by obtain ⟨y, -, rfl⟩ := List.mem_map.1 hc; rfl) ?_ ?_
  · simp only [List.length_map, List.length_nil]; omega
  simp -dsimp only [Vm.E, List.lookup, Nat.reduceAdd, Nat.reduceBEq, Int.reduceBNe, Int.reduceBEq, Bool.true_beq, Bool.false_beq]
  refine call_one (S := rightSpec) rfl _ GaL.rfl ⟨n, size, hn0, hn1, rfl, ?_⟩
  simp -dsimp only [Vm.E, List.lookup, Nat.reduceAdd, Nat.reduceBEq, Int.reduceBNe, Int.reduceBEq, Bool.true_beq, Bool.false_beq]
  unfold putOf at hq
  cases hf : fits n size
  · simp -dsimp only [Vm.E, List.lookup, Nat.reduceAdd, Nat.reduceBEq, Int.reduceBNe, Int.reduceBEq, Bool.true_beq, Bool.false_beq, Bool.not_false, Tryz.results160]
    simpa [hf] using hq
  · have hk : ∃ k : Nat, k ≤ 8 ∧ 1 ≤ k ∧ size = k ∧ size.toNat = k := by
      rcases sized_cases (fits_sized hf) with rfl | rfl | rfl | rfl
      · exact ⟨1, by decide, by decide, rfl, rfl⟩
      · exact ⟨2, by decide, by decide, rfl, rfl⟩
      · exact ⟨4, by decide, by decide, rfl, rfl⟩
      · exact ⟨8, by decide, by decide, rfl, rfl⟩
    obtain ⟨k, hk8, hk1, rfl, hk2⟩ := hk
    rw [hf, if_pos rfl, hk2] at hq
    simp -dsimp only [Vm.E, List.lookup, Nat.reduceAdd, Nat.reduceBEq, Int.reduceBNe, Int.reduceBEq, Bool.true_beq, Bool.false_beq, Bool.not_true]
    have e1 : IntKind.i64.wrap ((k : Int) - 1) = (k : Int) - 1 - 0 := by
      rw [wrap_i64 (by omega) (by omega)]; omega
    rw [e1]
    refine awp_loop (fun m s h' => ∃ i : Nat, i + m = k ∧ h' = h ∧ s = mk [(1, .v (.int .i64 n)), (7, .own true 5 1 ((l ++ (be k n).take i).map encB)), (8, .v (.int .i64 ((k : Int) - 1 - i)))])
      k _ (le_mk _ ?_) ⟨0, by omega, rfl, rfl⟩ ?_
    · simp [init_get]
    · rintro m s h' ⟨i, hi, rfl, rfl⟩
      simp -dsimp only [Vm.E, List.lookup, Nat.reduceAdd, Nat.reduceBEq, Int.reduceBNe, Int.reduceBEq, Bool.true_beq, Bool.false_beq]
      refine cond_intro (fun hc => ?_) (fun hc => ?_)
      · have hlt : i < k := by have := of_decide_eq_true hc; omega
        have ej : IntKind.i64.wrap (8 * ((k : Int) - 1 - i)) = ((8 * (k - 1 - i) : Nat) : Int) := by rw [wrap_i64 (by omega) (by omega)]; omega
        simp -dsimp only [Vm.E, List.lookup, Nat.reduceAdd, Nat.reduceBEq, Int.reduceBNe, Int.reduceBEq, Bool.true_beq, Bool.false_beq]
        rw [ej]
        refine shr_intro (by omega) ?_
        simp -dsimp only [Vm.E, List.lookup, Nat.reduceAdd, Nat.reduceBEq, Int.reduceBNe, Int.reduceBEq, Bool.true_beq, Bool.false_beq, cv3_5, byte_refPut n (k - 1 - i) (by omega), es45]
        refine bs_intro zr5 (by decide) (by decide) rfl rfl (by simp [solid, AV.cells]) ?_
        simp -dsimp only [Vm.E, List.lookup, Nat.reduceAdd, Nat.reduceBEq, Int.reduceBNe, Int.reduceBEq, Bool.true_beq, Bool.false_beq, append_own ei45]
        refine app_sl Tryz.underlying45 (by simp [AV.cells]) ?_ ?_
        · have : ((be k n).take i).length ≤ i := by simp only [List.length_take]; omega
          simp only [List.length_map, List.length_append, List.length_cons, List.length_nil]
          omega
        simp -dsimp only [Vm.E, List.lookup, Nat.reduceAdd, Nat.reduceBEq, Int.reduceBNe, Int.reduceBEq, Bool.true_beq, Bool.false_beq]
        refine kept_intro ⟨k - (i + 1), by omega, _, le_mk [(1, .v (.int .i64 n)), (7, .own true 5 1 ((l ++ (be k n).take (i + 1)).map encB)), (8, .v (.int .i64 ((k : Int) - 1 - (i + 1 : Nat))))] ?_, i + 1, by omega, rfl, rfl⟩
        simp only [List.forall_mem_cons, List.not_mem_nil, false_imp_iff, implies_true, and_true]
        simp -dsimp only [Vm.E, List.lookup, Nat.reduceAdd, Nat.reduceBEq, Int.reduceBNe, Int.reduceBEq, Bool.true_beq, Bool.false_beq]
        rw [wrap_i64 (by omega) (by omega), be_take hlt]
        have e2 : (k : Int) - 1 - i - 1 = (k : Int) - 1 - (i + 1 : Nat) := by omega
        rw [e2]
        have e3 : (l ++ (be k n).take i).map encB ++ [AV.v (.int .u8 ((byteOf n (k - 1 - i)).toNat : Int))] = (l ++ ((be k n).take i ++ [byteOf n (k - 1 - i)])).map encB := by simp [encB]
        rw [e3]
        exact ⟨.refl _, .refl _, .refl _⟩
      · have hge : ¬ i < k := by have := of_decide_eq_false hc; omega
        simp -dsimp only [Vm.E, List.lookup, Nat.reduceAdd, Nat.reduceBEq, Int.reduceBNe, Int.reduceBEq, Bool.true_beq, Bool.false_beq, Tryz.results160]
        have : i = k := by omega
        subst this
        rw [List.take_of_length_le (by simp [be])]
        exact hq
theorem idx_at (l : List UInt8) (n : Int) (i : Nat) (hn : n = i) (hi : i < l.length) {e : Nat} {K : AV → Prop} (hK : K (.eptr [.v (.int .u8 l[i].toNat)])) : awpIdx (some (e, 1)) (.sl 1 (l.map encB)) (.v (.int .i64 n)) K := by
  subst hn; exact idx_bytes l i hi hK
theorem does_refGet : Does Tryz.prog 205 getSpec := by
  refine does_of_awp (good_cons does_refSized good_nil) Tryz.func205 rfl (by decide +kernel) (by decide +kernel) ?_
  rintro args h Q ⟨l, at_, size, hl, hat, rfl, hq⟩
  refine ⟨by simp [Tryz.f205], ?_⟩
  rw [awpFunc_some (by rfl)]
  unfold getRes at hq
  simp -dsimp only [Vm.E, List.lookup, Nat.reduceAdd, Nat.reduceBEq, Int.reduceBNe, Int.reduceBEq, Bool.true_beq, Bool.false_beq]
  refine call_one (S := sizedSpec) rfl _ GaL.rfl ⟨_, rfl, ?_⟩
  simp -dsimp only [Vm.E, List.lookup, Nat.reduceAdd, Nat.reduceBEq, Int.reduceBNe, Int.reduceBEq, Bool.true_beq, Bool.false_beq]
  cases hs : sized size
  · simp -dsimp only [Vm.E, List.lookup, Nat.reduceAdd, Nat.reduceBEq, Int.reduceBNe, Int.reduceBEq, Bool.true_beq, Bool.false_beq, Bool.not_false, Tryz.results205]
    simpa [hs] using hq
  · have hk : ∃ k : Nat, k ≤ 8 ∧ 1 ≤ k ∧ size = k ∧ size.toNat = k := by
      rcases sized_cases hs with rfl | rfl | rfl | rfl
      · exact ⟨1, by decide, by decide, rfl, rfl⟩
      · exact ⟨2, by decide, by decide, rfl, rfl⟩
      · exact ⟨4, by decide, by decide, rfl, rfl⟩
      · exact ⟨8, by decide, by decide, rfl, rfl⟩
    obtain ⟨k, hk8, hk1, rfl, hk2⟩ := hk
    simp -dsimp only [Vm.E, List.lookup, Nat.reduceAdd, Nat.reduceBEq, Int.reduceBNe, Int.reduceBEq, Bool.true_beq, Bool.false_beq, Bool.not_true]
    cases h0 : decide (at_ < 0)
    · have h0' : ¬ at_ < 0 := of_decide_eq_false h0
      simp -dsimp only [Vm.E, List.lookup, Nat.reduceAdd, Nat.reduceBEq, Int.reduceBNe, Int.reduceBEq, Bool.true_beq, Bool.false_beq, Tryz.underlying45]
      rw [wrap_i64 (n := (l.length : Int) - k) (by omega) (by omega)]
      refine cond_intro (fun h2 => ?_) (fun h2 => ?_)
      · have h2' : at_ > (l.length : Int) - k := of_decide_eq_true h2
        simp -dsimp only [Vm.E, List.lookup, Nat.reduceAdd, Nat.reduceBEq, Int.reduceBNe, Int.reduceBEq, Bool.true_beq, Bool.false_beq, Tryz.results205]
        simpa [hs, h0', h2'] using hq
      · have h2' : ¬ at_ > (l.length : Int) - k := of_decide_eq_false h2
        simp -dsimp only [Vm.E, List.lookup, Nat.reduceAdd, Nat.reduceBEq, Int.reduceBNe, Int.reduceBEq, Bool.true_beq, Bool.false_beq]
        have hlen : ((l.drop at_.toNat).take k).length = k := by simp; omega
        obtain ⟨p, hp⟩ : ∃ p : Nat, at_ = p := ⟨at_.toNat, by omega⟩
        subst hp
        rw [Int.toNat_natCast] at hlen
        have hget : ∀ i (h : i < ((l.drop p).take k).length) (h2 : p + i < l.length), ((l.drop p).take k)[i] = l[p + i] := fun i h h2 => by simp
        generalize hb : (l.drop p).take k = b at hlen hget
        refine awp_loop (fun n s h' => ∃ i : Nat, i + n = k ∧ h' = h ∧ s = mk [(0, .sl 1 (l.map encB)), (1, .v (.int .i64 p)), (2, .v (.int .i64 k)), (8, .v (.int .i64 (getOf (b.take i)).toInt)), (9, .v (.int .i64 i))])
          k _ (le_mk _ ?_) ⟨0, by omega, rfl, rfl⟩ ?_
        · simp [init_get, getOf]
        · rintro n s h' ⟨i, hi, rfl, rfl⟩
          simp -dsimp only [Vm.E, List.lookup, Nat.reduceAdd, Nat.reduceBEq, Int.reduceBNe, Int.reduceBEq, Bool.true_beq, Bool.false_beq]
          refine cond_intro (fun hc => ?_) (fun hc => ?_)
          · have hlt : i < k := by have := of_decide_eq_true hc; omega
            simp -dsimp only [Vm.E, List.lookup, Nat.reduceAdd, Nat.reduceBEq, Int.reduceBNe, Int.reduceBEq, Bool.true_beq, Bool.false_beq]
            refine shl_intro (by decide) ?_
            rw [show min (Int.toNat 8) IntKind.i64.bits = 8 by decide, shl_i64]
            simp -dsimp only [Vm.E, List.lookup, Nat.reduceAdd, Nat.reduceBEq, Int.reduceBNe, Int.reduceBEq, Bool.true_beq, Bool.false_beq, es45, as45]
            refine idx_at l _ (p + i) (by rw [wrap_i64 (by omega) (by omega)]; omega) (by omega) ?_
            simp -dsimp only [Vm.E, List.lookup, Nat.reduceAdd, Nat.reduceBEq, Int.reduceBNe, Int.reduceBEq, Bool.true_beq, Bool.false_beq, of5, cv5_3, u8_i64, or_i64]
            refine kept_intro ⟨k - (i + 1), by omega, _, le_mk [(0, .sl 1 (l.map encB)), (1, .v (.int .i64 p)), (2, .v (.int .i64 k)), (8, .v (.int .i64 (getOf (b.take (i + 1))).toInt)), (9, .v (.int .i64 (i + 1 : Nat)))] ?_, i + 1, by omega, rfl, rfl⟩
            simp only [List.forall_mem_cons, List.not_mem_nil, false_imp_iff, implies_true, and_true]
            simp -dsimp only [Vm.E, List.lookup, Nat.reduceAdd, Nat.reduceBEq, Int.reduceBNe, Int.reduceBEq, Bool.true_beq, Bool.false_beq]
            rw [get_take b i (by omega), hget i (by omega) (by omega), wrap_i64 (by omega) (by omega)]
            exact ⟨.refl _, .refl _, .refl _, .refl _, .refl _⟩
          · have hge : ¬ i < k := by have := of_decide_eq_false hc; omega
            simp -dsimp only [Vm.E, List.lookup, Nat.reduceAdd, Nat.reduceBEq, Int.reduceBNe, Int.reduceBEq, Bool.true_beq, Bool.false_beq, Tryz.results205]
            rw [List.take_of_length_le (by omega)]
            simpa [hs, h0', h2', hk2, hb] using hq
    · have h0' : at_ < 0 := of_decide_eq_true h0
      simp -dsimp only [Vm.E, List.lookup, Nat.reduceAdd, Nat.reduceBEq, Int.reduceBNe, Int.reduceBEq, Bool.true_beq, Bool.false_beq, Tryz.results205]
      simpa [hs, h0'] using hq
end Go.Proofs.Lx
/- The reference's tables: plain laws. -/
set_option linter.unusedSimpArgs false
set_option linter.unusedVariables false
namespace Go.Proofs.Lx
open Go.Vm
theorem bytesLess_cb : ∀ a b : List UInt8, Op.bytesLess a b = decide (Lib.compareBytes a b < 0)
  | [], [] => by simp [Op.bytesLess, Lib.compareBytes]
  | _ :: _, [] => by simp [Op.bytesLess, Lib.compareBytes]
  | [], _ :: _ => by simp [Op.bytesLess, Lib.compareBytes]
  | a :: x, b :: y => by
    have ih := bytesLess_cb x y
    simp only [Op.bytesLess, Lib.compareBytes, ih]
    by_cases h1 : a < b
    · simp [h1]
    · by_cases h2 : b < a
      · have : a ≠ b := fun e => by subst e; exact h1 h2
        simp [h1, h2, this]
      · have : a = b := by
          apply UInt8.toNat_inj.1
          have h3 : ¬ a.toNat < b.toNat := fun h => h1 (UInt8.lt_iff_toNat_lt.2 h)
          have h4 : ¬ b.toNat < a.toNat := fun h => h2 (UInt8.lt_iff_toNat_lt.2 h)
          omega
        subst this
        simp [h1]
abbrev kLt (a b : List UInt8) : Prop := Lib.compareBytes a b < 0
theorem kLt_irrefl (a : List UInt8) : ¬ kLt a a := by unfold kLt; rw [cb_self]; decide
theorem kLt_tri {a b : List UInt8} (h1 : ¬ kLt a b) (h2 : a ≠ b) : kLt b a := Classical.byContradiction fun h => h2 (cb_eq _ _ h1 h)
def tfind (k : List UInt8) (l : List KV) : Option (List UInt8) := (l.find? fun p => p.1 == k).map Prod.snd
def tput (k v : List UInt8) : List KV → List KV
  | [] => [(k, v)]
  | p :: r => if kLt p.1 k then p :: tput k v r else if p.1 = k then (k, v) :: r else (k, v) :: p :: r
theorem tput_set (k v : List UInt8) : ∀ (l : List KV) (i : Nat) (hi : i < l.length), (∀ j (hj : j < i), kLt (l[j]'(by omega)).1 k) → l[i].1 = k → tput k v l = l.set i (k, v)
  | p :: r, 0, hi, _, he => by
    have he : p.1 = k := he
    have : ¬ kLt p.1 k := by rw [he]; exact kLt_irrefl k
    simp [tput, this, he, kLt_irrefl]
  | p :: r, i + 1, hi, hb, he => by
    have h0 : kLt p.1 k := hb 0 (by omega)
    have ih := tput_set k v r i (by simpa using hi) (fun j hj => hb (j + 1) (by omega)) he
    simp [tput, h0, ih]
theorem tput_ins (k v : List UInt8) : ∀ (l : List KV) (i : Nat) (hi : i ≤ l.length), (∀ j (hj : j < i), kLt (l[j]'(by omega)).1 k) → (∀ h : i < l.length, ¬ kLt l[i].1 k ∧ l[i].1 ≠ k) → tput k v l = l.take i ++ (k, v) :: l.drop i
  | [], i, hi, _, _ => by
    obtain rfl : i = 0 := by simpa using hi
    rfl
  | p :: r, 0, hi, _, he => by
    have := he (by simp)
    have h1 : ¬ kLt p.1 k := this.1
    have h2 : p.1 ≠ k := this.2
    simp [tput, h1, h2]
  | p :: r, i + 1, hi, hb, he => by
    have h0 : kLt p.1 k := hb 0 (by omega)
    have ih := tput_ins k v r i (by simpa using hi) (fun j hj => hb (j + 1) (by omega)) (fun h => he (by simpa using h))
    simp [tput, h0, ih]
theorem tput_length (k v : List UInt8) : ∀ l : List KV, (tput k v l).length ≤ l.length + 1
  | [] => by simp [tput]
  | p :: r => by
    have := tput_length k v r
    simp only [tput]
    split
    · simpa using this
    · split <;> simp
theorem tput_mem1 {k v : List UInt8} {q : KV} : ∀ {l : List KV}, q ∈ tput k v l → q = (k, v) ∨ q ∈ l
  | [], h => by simp [tput] at h; exact .inl h
  | p :: r, h => by
    simp only [tput] at h
    split at h
    · rcases List.mem_cons.1 h with h | h
      · exact .inr (h ▸ List.mem_cons_self ..)
      · rcases tput_mem1 h with h | h
        · exact .inl h
        · exact .inr (List.mem_cons_of_mem _ h)
    · split at h
      · rcases List.mem_cons.1 h with h | h
        · exact .inl h
        · exact .inr (List.mem_cons_of_mem _ h)
      · rcases List.mem_cons.1 h with h | h
        · exact .inl h
        · exact .inr h
theorem tput_sorted {k v : List UInt8} : ∀ {l : List KV}, l.Pairwise keyLt → (tput k v l).Pairwise keyLt
  | [], _ => by simp [tput]
  | p :: r, h => by
    have h' := List.pairwise_cons.1 h
    simp only [tput]
    split
    · rename_i hlt
      refine List.pairwise_cons.2 ⟨fun q hq => ?_, tput_sorted h'.2⟩
      rcases tput_mem1 hq with rfl | hq
      · exact hlt
      · exact h'.1 q hq
    · rename_i hlt
      split
      · rename_i he
        refine List.pairwise_cons.2 ⟨fun q hq => ?_, h'.2⟩
        have := h'.1 q hq
        show kLt k q.1
        rw [← he]; exact this
      · rename_i hne
        have hk := kLt_tri hlt hne
        refine List.pairwise_cons.2 ⟨fun q hq => ?_, h⟩
        rcases List.mem_cons.1 hq with rfl | hq
        · exact hk
        · exact cb_trans _ _ _ hk (h'.1 q hq)
theorem tput_mem {k v k' v' : List UInt8} : ∀ {l : List KV}, l.Pairwise keyLt → ((k', v') ∈ tput k v l ↔ if k' = k then v' = v else (k', v') ∈ l)
  | [], _ => by simp only [tput, List.mem_singleton, Prod.mk.injEq, List.not_mem_nil]; split <;> simp_all
  | p :: r, h => by
    have h' := List.pairwise_cons.1 h
    have ih := tput_mem (k := k) (v := v) (k' := k') (v' := v') h'.2
    have hnk : ∀ {k'}, ¬ kLt p.1 k' → (k', v') ∈ r → False := fun hn hm => hn (h'.1 _ hm)
    simp only [tput]
    split
    · rename_i hlt
      rw [List.mem_cons, ih]
      by_cases hk : k' = k
      · subst hk
        have : ¬ (k', v') = p := fun e => by rw [← e] at hlt; exact kLt_irrefl _ hlt
        simp [this]
      · simp [hk]
    · rename_i hlt
      split
      · rename_i he
        by_cases hk : k' = k
        · subst hk
          simp only [List.mem_cons, Prod.mk.injEq, true_and, if_true, or_iff_left_iff_imp]
          exact fun hm => (hnk hlt hm).elim
        · have : ¬ (k', v') = p := fun e => hk (by rw [← he, ← e])
          simp [hk, this]
      · rename_i hne
        by_cases hk : k' = k
        · subst hk
          have h3 : ¬ (k', v') = p := fun e => hne (by rw [← e])
          simp only [List.mem_cons, Prod.mk.injEq, true_and, if_true, or_iff_left_iff_imp]
          rintro (hm | hm)
          · exact (h3 hm).elim
          · exact (hnk hlt hm).elim
        · simp [hk]
theorem tfind_iff {k v : List UInt8} : ∀ {l : List KV}, l.Pairwise keyLt → (tfind k l = some v ↔ (k, v) ∈ l)
  | [], _ => by simp [tfind]
  | p :: r, h => by
    have h' := List.pairwise_cons.1 h
    have ih := tfind_iff (k := k) (v := v) h'.2
    unfold tfind at ih ⊢
    rw [List.find?_cons]
    cases hp : (p.1 == k)
    · have : p.1 ≠ k := by simpa using hp
      simp only [ih, List.mem_cons]
      have : ¬ (k, v) = p := fun e => this (by rw [← e])
      simp [this]
    · have hk : p.1 = k := by simpa using hp
      simp only [Option.map_some, Option.some.injEq, List.mem_cons]
      constructor
      · rintro rfl; exact .inl (by rw [← hk])
      · rintro (e | hm)
        · rw [← e]
        · exact absurd (h'.1 _ hm) (by show ¬ kLt p.1 k; rw [hk]; exact kLt_irrefl k)
/-- A table's pairs: what each key has. -/
def TabIs (f : Fun) (l : List KV) : Prop := l.Pairwise keyLt ∧ ∀ k v, (k, v) ∈ l ↔ f k = some v
theorem TabIs.find {f : Fun} {l : List KV} (h : TabIs f l) (k : List UInt8) : tfind k l = f k := by
  cases hx : tfind k l with
  | some v => exact ((h.2 k v).1 ((tfind_iff h.1).1 hx)).symm
  | none =>
    cases hy : f k with
    | none => rfl
    | some v =>
      have := (tfind_iff h.1).2 ((h.2 k v).2 hy)
      rw [hx] at this; cases this
theorem TabIs.put {f : Fun} {l : List KV} (h : TabIs f l) (k v : List UInt8) : TabIs (upd f k (some v)) (tput k v l) := by
  refine ⟨tput_sorted h.1, fun k' v' => ?_⟩
  rw [tput_mem h.1]
  show _ ↔ (if k' = k then some v else f k') = some v'
  by_cases hk : k' = k
  · simp only [hk, if_true, Option.some.injEq]; exact eq_comm
  · simp only [hk, if_false]; exact h.2 k' v'
theorem TabIs.new : TabIs noF [] := ⟨.nil, fun k v => by simp [noF]⟩
theorem TabIs.scan {f : Fun} {l : List KV} (h : TabIs f l) (pre : List UInt8) : ScanIs f pre (l.filter fun p => pre.isPrefixOf p.1) := by
  refine ⟨h.1.sublist List.filter_sublist, fun k v => ?_⟩
  rw [List.mem_filter, h.2]
/-- Two lists of the same pairs, both rising, are the same. -/
theorem sorted_same : ∀ {l l' : List KV}, l.Pairwise keyLt → l'.Pairwise keyLt → (∀ p, p ∈ l ↔ p ∈ l') → l = l'
  | [], [], _, _, _ => rfl
  | [], q :: r, _, _, h => by have := (h q).2 (List.mem_cons_self ..); cases this
  | p :: r, [], _, _, h => by have := (h p).1 (List.mem_cons_self ..); cases this
  | p :: r, q :: r', h1, h2, h => by
    have g1 := List.pairwise_cons.1 h1
    have g2 := List.pairwise_cons.1 h2
    have e : p = q := by
      rcases List.mem_cons.1 ((h p).1 (List.mem_cons_self ..)) with e | hm
      · exact e
      · rcases List.mem_cons.1 ((h q).2 (List.mem_cons_self ..)) with e | hm2
        · exact e.symm
        · exact absurd (g1.1 q hm2) (cb_asymm _ _ (g2.1 p hm))
    subst e
    congr 1
    refine sorted_same g1.2 g2.2 fun x => ?_
    have hx := h x
    simp only [List.mem_cons] at hx
    constructor
    · intro hm
      rcases hx.1 (.inr hm) with e | e
      · subst e; exact absurd (g1.1 x hm) (kLt_irrefl _)
      · exact e
    · intro hm
      rcases hx.2 (.inr hm) with e | e
      · subst e; exact absurd (g2.1 x hm) (kLt_irrefl _)
      · exact e
theorem ScanIs.same {f : Fun} {pre : List UInt8} {l l' : List KV} (h : ScanIs f pre l) (h' : ScanIs f pre l') : l = l' :=
  sorted_same h.1 h'.1 fun p => (h.2 p.1 p.2).trans (h'.2 p.1 p.2).symm
end Go.Proofs.Lx
/- The reference's tables, walked. -/
set_option linter.unusedSimpArgs false
set_option linter.unusedVariables false
namespace Go.Proofs.Lx
open Go.Vm
attribute [local irreducible] awpArr awpBin awpMake awpAppend awpCvX awpStrOf awpBinX awpSlice awpBS awpStore awpAlloc awpCopy awpIndex awpDraw awpIdxX awpFa awpField awpLookup awpUpdate awpDelete awpClear awpRange awpNext awpEntry awpBuild awpClearS awpIdxL awpTree appB
def rRightSpec : Vm.Spec := fun args h Q => ∃ k v : List UInt8, args = [.sl 1 (k.map encB), .sl 1 (v.map encB)] ∧ Q (.v (.bool (rightKV k v))) h
theorem does_rRight : Does Tryz.prog 156 rRightSpec := by
  refine does_of_awp good_nil Tryz.func156 rfl (by decide +kernel) (by decide +kernel) ?_
  rintro args h Q ⟨k, v, rfl, hq⟩
  refine ⟨by simp [Tryz.f156], ?_⟩
  rw [awpFunc_some (by rfl)]
  simp -dsimp only [Vm.E, List.lookup, Nat.reduceAdd, Nat.reduceBEq, Int.reduceBNe, Int.reduceBEq, Bool.true_beq, Bool.false_beq, Tryz.underlying45]
  by_cases d1 : 1 ≤ k.length
  · have c1 : decide ((k.length : Int) ≥ 1) = true := decide_eq_true (by omega)
    simp -dsimp only [Vm.E, List.lookup, Nat.reduceAdd, Nat.reduceBEq, Int.reduceBNe, Int.reduceBEq, Bool.true_beq, Bool.false_beq, c1, Tryz.underlying45]
    by_cases d2 : k.length ≤ 32
    · have c2 : decide ((k.length : Int) ≤ 32) = true := decide_eq_true (by omega)
      simp -dsimp only [Vm.E, List.lookup, Nat.reduceAdd, Nat.reduceBEq, Int.reduceBNe, Int.reduceBEq, Bool.true_beq, Bool.false_beq, c2, Tryz.underlying45, Tryz.results156]
      have : rightKV k v = decide ((v.length : Int) ≤ 120) := by
        unfold rightKV
        have e1 : ¬ k.length < 1 := by omega
        have e2 : ¬ 32 < k.length := by omega
        by_cases e : v.length ≤ 120
        · have : ¬ 120 < v.length := by omega
          have e3 : ((v.length : Int) ≤ 120) := by omega
          have e4 : ¬ ((120 : Int) < v.length) := by omega
          have e5 : ¬ ((32 : Int) < k.length) := by omega
          have e6 : ¬ ((k.length : Int) < 1) := by omega
          simp [e3, e4, e5, e6]
        · have e3 : ¬ ((v.length : Int) ≤ 120) := by omega
          have e4 : ((120 : Int) < v.length) := by omega
          simp [e3, e4]
      rw [← this]; exact hq
    · have c2 : decide ((k.length : Int) ≤ 32) = false := decide_eq_false (by omega)
      simp -dsimp only [Vm.E, List.lookup, Nat.reduceAdd, Nat.reduceBEq, Int.reduceBNe, Int.reduceBEq, Bool.true_beq, Bool.false_beq, c2, Tryz.underlying45, Tryz.results156]
      have : rightKV k v = false := by unfold rightKV; simp; omega
      rw [this] at hq; exact hq
  · have c1 : decide ((k.length : Int) ≥ 1) = false := decide_eq_false (by omega)
    simp -dsimp only [Vm.E, List.lookup, Nat.reduceAdd, Nat.reduceBEq, Int.reduceBNe, Int.reduceBEq, Bool.true_beq, Bool.false_beq, c1, Tryz.underlying45, Tryz.results156]
    have : rightKV k v = false := by unfold rightKV; simp; omega
    rw [this] at hq; exact hq
def tabObj (l : List KV) : AObj := .cells [.sl 2 (l.map kvAv)]
def tGetSpec : Vm.Spec := fun args h Q => ∃ (i : Nat) (l : List KV) (k : List UInt8), args = [.ptr i 0, .sl 1 (k.map encB)] ∧ h[i]? = some (tabObj l) ∧ l.length ≤ 1073741824 ∧ (∀ p ∈ l, p.2.length ≤ 1073741824) ∧
  (∀ v, tfind k l = some v → Q (.tup [.sl 1 (v.map encB), .v (.bool true)]) h) ∧ (tfind k l = none → Q (.tup [.v (.slice none 0 0), .v (.bool false)]) h)
theorem tfind_at {k : List UInt8} {l : List KV} {i : Nat} (hi : i < l.length) (hb : ∀ j (hj : j < i), (l[j]'(by omega)).1 ≠ k) (he : l[i].1 = k) : tfind k l = some l[i].2 := by
  unfold tfind
  have : l.find? (fun p => p.1 == k) = some l[i] := by
    rw [List.find?_eq_some_iff_getElem]
    exact ⟨by simpa using he, i, hi, rfl, fun j hj => by simpa using hb j hj⟩
  rw [this]; rfl
theorem tfind_no {k : List UInt8} {l : List KV} (hb : ∀ j (hj : j < l.length), l[j].1 ≠ k) : tfind k l = none := by
  unfold tfind
  rw [List.find?_eq_none.2 fun p hp => ?_]; rfl
  obtain ⟨j, hj, rfl⟩ := List.getElem_of_mem hp
  simpa using hb j hj
set_option maxRecDepth 20000 in
theorem does_tGet : Does Tryz.prog 190 tGetSpec := by
  refine does_of_awp good_nil Tryz.func190 rfl (by decide +kernel) (by decide +kernel) ?_
  rintro args h Q ⟨id, l, k, rfl, hh, hl, hvl, hq1, hq2⟩
  unfold tabObj at hh
  refine ⟨by simp [Tryz.f190], ?_⟩
  rw [awpFunc_some (by rfl)]
  simp -dsimp only [Vm.E, List.lookup, Nat.reduceAdd, Nat.reduceBEq, Int.reduceBNe, Int.reduceBEq, Bool.true_beq, Bool.false_beq]
  refine awp_loop (fun m s h' => ∃ i : Nat, i + m = l.length ∧ h' = h ∧ (∀ j (hj : j < l.length), j < i → l[j].1 ≠ k) ∧ s = mk [(0, .ptr id 0), (1, .sl 1 (k.map encB)), (6, .v (.int .i64 i))])
    l.length _ (le_mk _ ?_) ⟨0, by omega, rfl, fun j _ hj => by omega, rfl⟩ ?_
  · simp only [List.forall_mem_cons, List.not_mem_nil, false_imp_iff, implies_true, and_true]
    simp -dsimp only [Vm.E, List.lookup, Nat.reduceAdd, Nat.reduceBEq, Int.reduceBNe, Int.reduceBEq, Bool.true_beq, Bool.false_beq]
    exact ⟨.refl _, .refl _, .refl _⟩
  · rintro m s h' ⟨i, hi, rfl, hb, rfl⟩
    simp -dsimp only [Vm.E, List.lookup, Nat.reduceAdd, Nat.reduceBEq, Int.reduceBNe, Int.reduceBEq, Bool.true_beq, Bool.false_beq, fo129_0, hh, of40, Tryz.underlying40]
    refine cond_intro (fun hcc => ?_) (fun hcc => ?_)
    · have hlt : i < l.length := by have := of_decide_eq_true hcc; omega
      have hw : IntKind.i64.wrap ((i : Int) + 1) = ((i + 1 : Nat) : Int) := by rw [wrap_i64 (by omega) (by omega)]; simp
      obtain ⟨p, hp⟩ : ∃ p, l[i] = p := ⟨_, rfl⟩
      have hvp : p.2.length ≤ 1073741824 := hvl p (hp ▸ List.getElem_mem hlt)
      have hf1 : p.1 = k → tfind k l = some p.2 := fun e => by rw [← hp]; exact tfind_at hlt (fun j hj => hb j _ hj) (by rw [hp]; exact e)
      simp -dsimp only [Vm.E, List.lookup, Nat.reduceAdd, Nat.reduceBEq, Int.reduceBNe, Int.reduceBEq, Bool.true_beq, Bool.false_beq]
      refine draw_cont [] (.take 0 (.take 1 (.take 2 (.take 4 (.take 9 (.take 10 (.alt 3 (.take 5 (.take 6 (.take 7 (.take 8 (.take 11 (.done)))))) .stop))))))) (fun s h2 => h2 = h' ∧ s 27 = .v (.bool (p.1 == k)) ∧ s 0 = .ptr id 0 ∧ s 1 = .sl 1 (k.map encB) ∧ s 6 = .v (.int .i64 i)) (by kernel_rfl) (by kernel_rfl) (by kernel_rfl) (by decide) ?_ ?_
      · simp -dsimp only [Vm.E, List.lookup, Nat.reduceAdd, Nat.reduceBEq, Int.reduceBNe, Int.reduceBEq, Bool.true_beq, Bool.false_beq, Vm.S, Nat.reduceLeDiff, fo129_0, hh, of40, es40, as40, Tryz.underlying45, cs45]
        refine strOf_sl bt45 k rfl ?_
        simp -dsimp only [Vm.E, List.lookup, Nat.reduceAdd, Nat.reduceBEq, Int.reduceBNe, Int.reduceBEq, Bool.true_beq, Bool.false_beq, Vm.S, Nat.reduceLeDiff, fo129_0, hh, of40, es40, as40, Tryz.underlying45, cs45, fo47_0, fo47_1, of45, AV.cells, Tryz.underlying40]
        refine idx_map kvAv l i hlt ?_
        simp only [hp, kvAv]
        simp -dsimp only [Vm.E, List.lookup, Nat.reduceAdd, Nat.reduceBEq, Int.reduceBNe, Int.reduceBEq, Bool.true_beq, Bool.false_beq, Vm.S, Nat.reduceLeDiff, fo129_0, hh, of40, es40, as40, Tryz.underlying45, cs45, fo47_0, fo47_1, of45, AV.cells, Tryz.underlying40]
        refine strOf_sl bt45 p.1 rfl ?_
        simp -dsimp only [Vm.E, List.lookup, Nat.reduceAdd, Nat.reduceBEq, Int.reduceBNe, Int.reduceBEq, Bool.true_beq, Bool.false_beq, Vm.S, Nat.reduceLeDiff, fo129_0, hh, of40, es40, as40, Tryz.underlying45, cs45, fo47_0, fo47_1, of45, AV.cells, Tryz.underlying40]
        simp -dsimp only [Vm.E, List.lookup, Nat.reduceAdd, Nat.reduceBEq, Int.reduceBNe, Int.reduceBEq, Bool.true_beq, Bool.false_beq, str_eql, toList_mk]
      · rintro s h2 ⟨rfl, e27, e0, e1, e6⟩
        cases c1 : (p.1 == k)
        · rw [c1] at e27
          simp -dsimp only [Vm.E, List.lookup, Nat.reduceAdd, Nat.reduceBEq, Int.reduceBNe, Int.reduceBEq, Bool.true_beq, Bool.false_beq, e27, e6, hw]
          refine kept_intro ⟨l.length - (i + 1), by omega, _, le_mk [(0, .ptr id 0), (1, .sl 1 (k.map encB)), (6, .v (.int .i64 (i + 1 : Nat)))] ?_, i + 1, by omega, rfl, fun j hj hj2 => ?_, rfl⟩
          · simp only [List.forall_mem_cons, List.not_mem_nil, false_imp_iff, implies_true, and_true]
            simp -dsimp only [Vm.E, List.lookup, Nat.reduceAdd, Nat.reduceBEq, Int.reduceBNe, Int.reduceBEq, Bool.true_beq, Bool.false_beq, e0, e1]
            exact ⟨.refl _, .refl _, .refl _⟩
          · by_cases hji : j = i
            · subst hji; rw [hp]; simpa using c1
            · exact hb j hj (by omega)
        · rw [c1] at e27
          have hf := hq1 _ (hf1 (by simpa using c1))
          simp -dsimp only [Vm.E, List.lookup, Nat.reduceAdd, Nat.reduceBEq, Int.reduceBNe, Int.reduceBEq, Bool.true_beq, Bool.false_beq, e27, e6, e0, e1, Vm.S, Nat.reduceLeDiff, fo129_0, hh, of40, es40, as40, Tryz.underlying45, cs45, fo47_0, fo47_1, of45, AV.cells, Tryz.underlying40]
          refine idx_map kvAv l i hlt ?_
          simp only [hp, kvAv]
          simp -dsimp only [Vm.E, List.lookup, Nat.reduceAdd, Nat.reduceBEq, Int.reduceBNe, Int.reduceBEq, Bool.true_beq, Bool.false_beq, e27, e6, e0, e1, Vm.S, Nat.reduceLeDiff, fo129_0, hh, of40, es40, as40, Tryz.underlying45, cs45, fo47_0, fo47_1, of45, AV.cells, Tryz.underlying40]
          simp -dsimp only [Vm.E, List.lookup, Nat.reduceAdd, Nat.reduceBEq, Int.reduceBNe, Int.reduceBEq, Bool.true_beq, Bool.false_beq, e27, e6, e0, e1, append_nil ei45]
          refine app_sl Tryz.underlying45 (fun c hc => by obtain ⟨y, -, rfl⟩ := List.mem_map.1 hc; rfl) (by simp only [List.length_map, List.length_nil]; omega) ?_
          simp -dsimp only [Vm.E, List.lookup, Nat.reduceAdd, Nat.reduceBEq, Int.reduceBNe, Int.reduceBEq, Bool.true_beq, Bool.false_beq, e27, e6, e0, e1, Tryz.results190]
          exact hf
    · have hge : ¬ i < l.length := by have := of_decide_eq_false hcc; omega
      simp -dsimp only [Vm.E, List.lookup, Nat.reduceAdd, Nat.reduceBEq, Int.reduceBNe, Int.reduceBEq, Bool.true_beq, Bool.false_beq, Tryz.results190]
      exact hq2 (tfind_no fun j hj => hb j hj (by omega))
theorem str_lss {t : TypeId} {a b : ByteArray} {KV : Value → Prop} : awpBin Tryz.prog .lss t (.v (.string a)) (.v (.string b)) KV = KV (.bool (Op.bytesLess a.toList b.toList)) := by simp [awpBin]
def lessAt (l : List KV) (i : Nat) (k : List UInt8) : Bool := (l[i]?.map fun p => decide (kLt p.1 k)).getD false
def sameAt (l : List KV) (i : Nat) (k : List UInt8) : Bool := (l[i]?.map fun p => p.1 == k).getD false
theorem lessAt_true {l : List KV} {i : Nat} {k : List UInt8} (h : lessAt l i k = true) : ∃ hi : i < l.length, kLt l[i].1 k := by
  unfold lessAt at h
  by_cases hi : i < l.length
  · rw [List.getElem?_eq_getElem hi] at h; exact ⟨hi, by simpa using h⟩
  · rw [List.getElem?_eq_none (by omega)] at h; cases h
theorem sameAt_true {l : List KV} {i : Nat} {k : List UInt8} (h : sameAt l i k = true) : ∃ hi : i < l.length, l[i].1 = k := by
  unfold sameAt at h
  by_cases hi : i < l.length
  · rw [List.getElem?_eq_getElem hi] at h; exact ⟨hi, by simpa using h⟩
  · rw [List.getElem?_eq_none (by omega)] at h; cases h
theorem tput_at {k v : List UInt8} {l : List KV} {i : Nat} (hi : i ≤ l.length) (hb : ∀ j (hj : j < l.length), j < i → kLt l[j].1 k) (h1 : lessAt l i k = false) (h2 : sameAt l i k = false) : tput k v l = l.take i ++ (k, v) :: l.drop i := by
  refine tput_ins k v l i hi (fun j hj => hb j _ hj) fun h => ?_
  unfold lessAt at h1; unfold sameAt at h2
  rw [List.getElem?_eq_getElem h] at h1 h2
  exact ⟨by simpa using h1, by simpa using h2⟩
def tPutSpec : Vm.Spec := fun args h Q => ∃ (i : Nat) (l : List KV) (k v : List UInt8), args = [.ptr i 0, .sl 1 (k.map encB), .sl 1 (v.map encB)] ∧ h[i]? = some (tabObj l) ∧ l.length ≤ 1073741824 ∧ k.length ≤ 1073741824 ∧ v.length ≤ 1073741824 ∧
  Q (.tup []) (h.set i (tabObj (tput k v l)))
set_option maxRecDepth 20000 in
set_option maxHeartbeats 16000000 in
theorem does_tPut : Does Tryz.prog 157 tPutSpec := by
  refine does_of_awp good_nil Tryz.func157 rfl (by decide +kernel) (by decide +kernel) ?_
  rintro args h Q ⟨id, l, k, v, rfl, hh, hl, hkl, hvl, hq⟩
  unfold tabObj at hh hq
  refine ⟨by simp [Tryz.f157], ?_⟩
  rw [awpFunc_some (by rfl)]
  simp -dsimp only [Vm.E, List.lookup, Nat.reduceAdd, Nat.reduceBEq, Int.reduceBNe, Int.reduceBEq, Bool.true_beq, Bool.false_beq, append_nil ei45]
  refine app_sl Tryz.underlying45 (fun c hc => by obtain ⟨y, -, rfl⟩ := List.mem_map.1 hc; rfl) (by simp only [List.length_map, List.length_nil]; omega) ?_
  simp -dsimp only [Vm.E, List.lookup, Nat.reduceAdd, Nat.reduceBEq, Int.reduceBNe, Int.reduceBEq, Bool.true_beq, Bool.false_beq, append_nil ei45]
  refine app_sl Tryz.underlying45 (fun c hc => by obtain ⟨y, -, rfl⟩ := List.mem_map.1 hc; rfl) (by simp only [List.length_map, List.length_nil]; omega) ?_
  simp -dsimp only [Vm.E, List.lookup, Nat.reduceAdd, Nat.reduceBEq, Int.reduceBNe, Int.reduceBEq, Bool.true_beq, Bool.false_beq, Vm.S, Nat.reduceLeDiff, List.nil_append, bd47, al47, sz47]
  refine awp_loop (fun m s h' => ∃ i : Nat, i + m = l.length ∧ h' = h ∧ (∀ j (hj : j < l.length), j < i → kLt l[j].1 k) ∧ s = mk [(0, .ptr id 0), (1, .sl 1 (k.map encB)), (6, .box [.sl 1 (k.map encB), .sl 1 (v.map encB)]), (7, .v (.int .i64 i))])
    l.length _ (le_mk _ ?_) ⟨0, by omega, rfl, fun j _ hj => by omega, rfl⟩ ?_
  · simp only [List.forall_mem_cons, List.not_mem_nil, false_imp_iff, implies_true, and_true]
    simp -dsimp only [Vm.E, List.lookup, Nat.reduceAdd, Nat.reduceBEq, Int.reduceBNe, Int.reduceBEq, Bool.true_beq, Bool.false_beq]
    exact ⟨.refl _, .refl _, .refl _, .refl _⟩
  · rintro m s h' ⟨i, hi, rfl, hb, rfl⟩
    simp -dsimp only [Vm.E, List.lookup, Nat.reduceAdd, Nat.reduceBEq, Int.reduceBNe, Int.reduceBEq, Bool.true_beq, Bool.false_beq]
    have hw : i < l.length → IntKind.i64.wrap ((i : Int) + 1) = ((i + 1 : Nat) : Int) := fun hlt => by rw [wrap_i64 (by omega) (by omega)]; simp
    refine draw_cont [] (.take 0 (.take 1 (.take 2 (.take 3 (.alt 4 (.take 5 (.take 6 (.take 7 (.take 8 (.take 9 (.take 10 (.take 12 (.take 17 (.alt 11 (.take 13 (.take 14 (.alt 15 (.alt 16 (.alt 18 (.take 19 (.take 20 (.done))) .stop) (.alt 18 (.alt 16 (.take 19 (.take 20 (.done))) .stop) (.stop))) (.alt 18 (.alt 15 (.alt 16 (.take 19 (.take 20 (.done))) .stop) .stop) (.stop))))) (.alt 18 (.alt 11 (.take 13 (.take 14 (.alt 15 (.alt 16 (.take 19 (.take 20 (.done))) .stop) .stop))) .stop) (.stop))))))))))) .stop))))) (fun s hx => hx = h' ∧ s 34 = .v (.bool (lessAt l i k)) ∧ s 0 = .ptr id 0 ∧ s 1 = .sl 1 (k.map encB) ∧ s 6 = .box [.sl 1 (k.map encB), .sl 1 (v.map encB)] ∧ s 7 = .v (.int .i64 i)) (by kernel_rfl) (by kernel_rfl) (by kernel_rfl) (by decide) ?_ ?_
    · by_cases hlt : i < l.length
      · have c1 : decide ((i : Int) < l.length) = true := decide_eq_true (by omega)
        obtain ⟨p, hp⟩ : ∃ p, l[i] = p := ⟨_, rfl⟩
        have hv : (lessAt l i k) = decide (kLt p.1 k) := by unfold lessAt; rw [List.getElem?_eq_getElem hlt, hp]; rfl
        simp only [hv]
        repeat' first
          | with_reducible exact True.intro
          | simp -dsimp only [Vm.E, List.lookup, Nat.reduceAdd, Nat.reduceBEq, Int.reduceBNe, Int.reduceBEq, Bool.true_beq, Bool.false_beq, Vm.S, Nat.reduceLeDiff, fo129_0, hh, of40, es40, as40, Tryz.underlying45, cs45, fo47_0, fo47_1, of45, AV.cells, Tryz.underlying40, c1, str_eql, str_lss, toList_mk, bytesLess_cb]
          | refine strOf_sl bt45 k rfl ?_
          | refine strOf_sl bt45 p.1 rfl ?_
          | (refine idx_map kvAv l i hlt ?_; simp only [hp, kvAv])
          | refine tree_alt ?_ ?_
      · have c1 : decide ((i : Int) < l.length) = false := decide_eq_false (by omega)
        have hv : (lessAt l i k) = false := by unfold lessAt; rw [List.getElem?_eq_none (by omega)]; rfl
        simp only [hv]
        repeat' first
          | with_reducible exact True.intro
          | simp -dsimp only [Vm.E, List.lookup, Nat.reduceAdd, Nat.reduceBEq, Int.reduceBNe, Int.reduceBEq, Bool.true_beq, Bool.false_beq, Vm.S, Nat.reduceLeDiff, fo129_0, hh, of40, es40, as40, Tryz.underlying45, cs45, fo47_0, fo47_1, of45, AV.cells, Tryz.underlying40, c1]
          | refine tree_alt ?_ ?_
    · rintro s h2 ⟨rfl, e34, e0, e1, e6, e7⟩
      cases hb2 : lessAt l i k
      · rw [hb2] at e34
        simp -dsimp only [Vm.E, List.lookup, Nat.reduceAdd, Nat.reduceBEq, Int.reduceBNe, Int.reduceBEq, Bool.true_beq, Bool.false_beq, e34, e0, e1, e6, e7]
        refine draw_cont [] (.take 0 (.take 1 (.take 2 (.take 3 (.alt 4 (.take 5 (.take 6 (.take 7 (.take 8 (.take 9 (.take 10 (.take 12 (.take 17 (.alt 11 (.take 13 (.take 14 (.alt 15 (.alt 16 (.alt 18 (.take 19 (.take 20 (.done))) .stop) (.alt 18 (.alt 16 (.take 19 (.take 20 (.done))) .stop) (.stop))) (.alt 18 (.alt 15 (.alt 16 (.take 19 (.take 20 (.done))) .stop) .stop) (.stop))))) (.alt 18 (.alt 11 (.take 13 (.take 14 (.alt 15 (.alt 16 (.take 19 (.take 20 (.done))) .stop) .stop))) .stop) (.stop))))))))))) .stop))))) (fun s hx => hx = h2 ∧ s 57 = .v (.bool (sameAt l i k)) ∧ s 0 = .ptr id 0 ∧ s 1 = .sl 1 (k.map encB) ∧ s 6 = .box [.sl 1 (k.map encB), .sl 1 (v.map encB)] ∧ s 7 = .v (.int .i64 i)) (by kernel_rfl) (by kernel_rfl) (by kernel_rfl) (by decide) ?_ ?_
        · by_cases hlt : i < l.length
          · have c1 : decide ((i : Int) < l.length) = true := decide_eq_true (by omega)
            obtain ⟨p, hp⟩ : ∃ p, l[i] = p := ⟨_, rfl⟩
            have hv : (sameAt l i k) = (p.1 == k) := by unfold sameAt; rw [List.getElem?_eq_getElem hlt, hp]; rfl
            simp only [hv]
            repeat' first
              | with_reducible exact True.intro
              | simp -dsimp only [Vm.E, List.lookup, Nat.reduceAdd, Nat.reduceBEq, Int.reduceBNe, Int.reduceBEq, Bool.true_beq, Bool.false_beq, Vm.S, Nat.reduceLeDiff, fo129_0, hh, of40, es40, as40, Tryz.underlying45, cs45, fo47_0, fo47_1, of45, AV.cells, Tryz.underlying40, c1, str_eql, str_lss, toList_mk, bytesLess_cb, e34, e0, e1, e6, e7]
              | refine strOf_sl bt45 k rfl ?_
              | refine strOf_sl bt45 p.1 rfl ?_
              | (refine idx_map kvAv l i hlt ?_; simp only [hp, kvAv])
              | refine tree_alt ?_ ?_
          · have c1 : decide ((i : Int) < l.length) = false := decide_eq_false (by omega)
            have hv : (sameAt l i k) = false := by unfold sameAt; rw [List.getElem?_eq_none (by omega)]; rfl
            simp only [hv]
            repeat' first
              | with_reducible exact True.intro
              | simp -dsimp only [Vm.E, List.lookup, Nat.reduceAdd, Nat.reduceBEq, Int.reduceBNe, Int.reduceBEq, Bool.true_beq, Bool.false_beq, Vm.S, Nat.reduceLeDiff, fo129_0, hh, of40, es40, as40, Tryz.underlying45, cs45, fo47_0, fo47_1, of45, AV.cells, Tryz.underlying40, c1, e34, e0, e1, e6, e7]
              | refine tree_alt ?_ ?_
        · rintro s3 h3 ⟨rfl, e57, f0, f1, f6, f7⟩
          clear e34 e0 e1 e6 e7
          cases hb4 : sameAt l i k
          · rw [hb4] at e57
            simp -dsimp only [Vm.E, List.lookup, Nat.reduceAdd, Nat.reduceBEq, Int.reduceBNe, Int.reduceBEq, Bool.true_beq, Bool.false_beq, e57, f0, f1, f6, f7]
            have hput := tput_at (k := k) (v := v) (by omega) hb hb2 hb4
            have hil : i ≤ l.length := by omega
            have e1 : (l.map kvAv).take (i : Int).toNat = (l.take i).map kvAv := by rw [Int.toNat_natCast, List.map_take]
            have e2 : (l.map kvAv).drop (i : Int).toNat = (l.drop i).map kvAv := by rw [Int.toNat_natCast, List.map_drop]
            have hu : ∀ (l : List KV), ∀ c ∈ l.map kvAv, c.cells.length = 2 := fun l c hc => by obtain ⟨y, -, rfl⟩ := List.mem_map.1 hc; rfl
            have hfin : (l.take i).map kvAv ++ [AV.agg [.sl 1 (k.map encB), .sl 1 (v.map encB)]] ++ (l.drop i).map kvAv = (tput k v l).map kvAv := by rw [hput]; simp [kvAv]
            refine draw_cont [6] (.take 0 (.take 1 (.take 2 (.take 3 (.take 5 (.take 8 (.take 11 (.take 12 (.take 13 (.take 15 (.alt 4 (.take 6 (.alt 7 (.alt 9 (.alt 10 (.alt 14 (.take 16 (.alt 17 (.take 18 (.take 19 (.alt 20 (.done) .stop))) .stop)) .stop) (.alt 14 (.take 16 (.alt 10 (.alt 17 (.take 18 (.take 19 (.alt 20 (.done) .stop))) .stop) .stop)) (.stop))) (.alt 14 (.take 16 (.alt 9 (.alt 10 (.alt 17 (.take 18 (.take 19 (.alt 20 (.done) .stop))) .stop) .stop) .stop)) (.stop))) (.alt 9 (.alt 7 (.alt 10 (.alt 14 (.take 16 (.alt 17 (.take 18 (.take 19 (.alt 20 (.done) .stop))) .stop)) .stop) (.alt 14 (.take 16 (.alt 10 (.alt 17 (.take 18 (.take 19 (.alt 20 (.done) .stop))) .stop) .stop)) (.stop))) (.alt 14 (.take 16 (.alt 7 (.alt 10 (.alt 17 (.take 18 (.take 19 (.alt 20 (.done) .stop))) .stop) .stop) .stop)) (.stop))) (.alt 14 (.take 16 (.alt 7 (.alt 9 (.alt 10 (.alt 17 (.take 18 (.take 19 (.alt 20 (.done) .stop))) .stop) .stop) .stop) (.alt 9 (.alt 7 (.alt 10 (.alt 17 (.take 18 (.take 19 (.alt 20 (.done) .stop))) .stop) .stop) .stop) (.stop)))) (.stop))))) (.alt 9 (.alt 4 (.take 6 (.alt 7 (.alt 10 (.alt 14 (.take 16 (.alt 17 (.take 18 (.take 19 (.alt 20 (.done) .stop))) .stop)) .stop) (.alt 14 (.take 16 (.alt 10 (.alt 17 (.take 18 (.take 19 (.alt 20 (.done) .stop))) .stop) .stop)) (.stop))) (.alt 14 (.take 16 (.alt 7 (.alt 10 (.alt 17 (.take 18 (.take 19 (.alt 20 (.done) .stop))) .stop) .stop) .stop)) (.stop)))) (.alt 14 (.take 16 (.alt 4 (.take 6 (.alt 7 (.alt 10 (.alt 17 (.take 18 (.take 19 (.alt 20 (.done) .stop))) .stop) .stop) .stop)) .stop)) (.stop))) (.alt 14 (.take 16 (.alt 4 (.take 6 (.alt 7 (.alt 9 (.alt 10 (.alt 17 (.take 18 (.take 19 (.alt 20 (.done) .stop))) .stop) .stop) .stop) (.alt 9 (.alt 7 (.alt 10 (.alt 17 (.take 18 (.take 19 (.alt 20 (.done) .stop))) .stop) .stop) .stop) (.stop)))) (.alt 9 (.alt 4 (.take 6 (.alt 7 (.alt 10 (.alt 17 (.take 18 (.take 19 (.alt 20 (.done) .stop))) .stop) .stop) .stop)) .stop) (.stop)))) (.stop)))))))))))))) (fun s hx => hx = h3.set id (tabObj (tput k v l))) (by kernel_rfl) (by kernel_rfl) (by kernel_rfl) (by decide) ?_ ?_
            · clear hq hb hw
              repeat' first
                | with_reducible exact True.intro
                | simp -dsimp only [Vm.E, List.lookup, Nat.reduceAdd, Nat.reduceBEq, Int.reduceBNe, Int.reduceBEq, Bool.true_beq, Bool.false_beq, Vm.S, Nat.reduceLeDiff, fo129_0, hh, of40, es40, as40, Tryz.underlying45, cs45, fo47_0, fo47_1, of45, AV.cells, Tryz.underlying40, f0, f1, f6, f7, e1, e2, List.nil_append, of47, append_nil ei40, append_own ei40, hfin, tabObj, sz40]
                | refine tree_alt ?_ ?_
                | refine slice_h es40 (by omega) (by rw [List.length_map]; omega) ?_
                | refine slice_l es40 (by omega) (by rw [List.length_map]; omega) ?_
                | refine bs_intro zr47 (by decide) (by decide) rfl rfl (by simp [solid, AV.cells]) ?_
                | refine app_sl Tryz.underlying40 (hu _) (by simp only [List.length_map, List.length_nil, List.length_append, List.length_cons, List.length_take, List.length_drop]; omega) ?_
                | refine app_sl Tryz.underlying40 (by simp [AV.cells]) (by simp only [List.length_map, List.length_nil, List.length_append, List.length_cons, List.length_take, List.length_drop]; omega) ?_
            · rintro s4 h4 rfl
              simp -dsimp only [Vm.E, List.lookup, Nat.reduceAdd, Nat.reduceBEq, Int.reduceBNe, Int.reduceBEq, Bool.true_beq, Bool.false_beq, Tryz.results157]
              exact hq
          · rw [hb4] at e57
            obtain ⟨hlt, heq⟩ := sameAt_true hb4
            have hset := tput_set k v l i hlt (fun j hj => hb j _ hj) heq
            simp -dsimp only [Vm.E, List.lookup, Nat.reduceAdd, Nat.reduceBEq, Int.reduceBNe, Int.reduceBEq, Bool.true_beq, Bool.false_beq, Vm.S, Nat.reduceLeDiff, fo129_0, hh, of40, es40, as40, Tryz.underlying45, cs45, fo47_0, fo47_1, of45, AV.cells, Tryz.underlying40, e57, f0, f1, f6, f7, append_nil ei40]
            refine app_sl Tryz.underlying40 (fun c hc => by obtain ⟨y, -, rfl⟩ := List.mem_map.1 hc; rfl) (by simp only [List.length_map, List.length_nil]; omega) ?_
            simp -dsimp only [Vm.E, List.lookup, Nat.reduceAdd, Nat.reduceBEq, Int.reduceBNe, Int.reduceBEq, Bool.true_beq, Bool.false_beq, Vm.S, Nat.reduceLeDiff, fo129_0, hh, of40, es40, as40, Tryz.underlying45, cs45, fo47_0, fo47_1, of45, AV.cells, Tryz.underlying40, e57, f0, f1, f6, f7, List.nil_append, of47]
            refine idxO_intro (by omega) (by simp; omega) ?_
            simp -dsimp only [Vm.E, List.lookup, Nat.reduceAdd, Nat.reduceBEq, Int.reduceBNe, Int.reduceBEq, Bool.true_beq, Bool.false_beq, Vm.S, Nat.reduceLeDiff, fo129_0, hh, of40, es40, as40, Tryz.underlying45, cs45, fo47_0, fo47_1, of45, AV.cells, Tryz.underlying40, e57, f0, f1, f6, f7, of47, sz47, Int.toNat_natCast]
            have hre : (l.map kvAv).set i (.agg [.sl 1 (k.map encB), .sl 1 (v.map encB)]) = (tput k v l).map kvAv := by rw [hset, List.map_set]; rfl
            refine store_elt 47 (l.map kvAv) (by simp -dsimp only [Vm.E, List.lookup, Nat.reduceAdd, Nat.reduceBEq, Int.reduceBNe, Int.reduceBEq, Bool.true_beq, Bool.false_beq]) (y := kvAv l[i]) (by rw [List.getElem?_map, List.getElem?_eq_getElem hlt]; rfl) rfl rfl (by omega) rfl ?_
            simp only [kvAv, AV.cells, putCells, reCell, List.take_zero, List.nil_append, List.length_cons, List.length_nil, Nat.zero_add, Nat.reduceAdd, List.drop_succ_cons, List.drop_zero, List.append_nil, List.drop_nil]
            simp -dsimp only [Vm.E, List.lookup, Nat.reduceAdd, Nat.reduceBEq, Int.reduceBNe, Int.reduceBEq, Bool.true_beq, Bool.false_beq, Vm.S, Nat.reduceLeDiff, fo129_0, hh, of40, es40, as40, AV.cells, Tryz.underlying40, f0, f1, f6, f7, hre, sz40, Tryz.results157]
            exact hq
      · rw [hb2] at e34
        obtain ⟨hlt, hk⟩ := lessAt_true hb2
        simp -dsimp only [Vm.E, List.lookup, Nat.reduceAdd, Nat.reduceBEq, Int.reduceBNe, Int.reduceBEq, Bool.true_beq, Bool.false_beq, e34, e0, e1, e6, e7]
        refine kept_intro ⟨l.length - (i + 1), by omega, _, le_mk [(0, .ptr id 0), (1, .sl 1 (k.map encB)), (6, .box [.sl 1 (k.map encB), .sl 1 (v.map encB)]), (7, .v (.int .i64 (i + 1 : Nat)))] ?_, i + 1, by omega, rfl, fun j hj hj2 => ?_, rfl⟩
        · simp only [List.forall_mem_cons, List.not_mem_nil, false_imp_iff, implies_true, and_true]
          simp -dsimp only [Vm.E, List.lookup, Nat.reduceAdd, Nat.reduceBEq, Int.reduceBNe, Int.reduceBEq, Bool.true_beq, Bool.false_beq, e0, e1, e6, e7, hw hlt]
          exact ⟨.refl _, .refl _, .refl _, .refl _⟩
        · by_cases hji : j = i
          · subst hji; exact hk
          · exact hb j hj (by omega)
end Go.Proofs.Lx
/- The reference's records: ref17, ref18. -/
set_option linter.unusedSimpArgs false
set_option linter.unusedVariables false
namespace Go.Proofs.Lx
open Go.Vm
attribute [local irreducible] awpArr awpBin awpMake awpAppend awpCvX awpStrOf awpBinX awpSlice awpBS awpStore awpAlloc awpCopy awpIndex awpDraw awpIdxX awpFa awpField awpLookup awpUpdate awpDelete awpClear awpRange awpNext awpEntry awpBuild awpClearS awpIdxL
theorem does_rPack : Does Tryz.prog 96 packSpec := by
  refine does_of_awp (good_cons does_refPut good_nil) Tryz.func96 rfl (by decide +kernel) (by decide +kernel) ?_
  rintro args h Q ⟨l, hl, hn, rfl, hq⟩
  refine ⟨by simp [Tryz.f96], ?_⟩
  rw [awpFunc_some (by rfl)]
  simp -dsimp only [Vm.E, List.lookup, Nat.reduceAdd, Nat.reduceBEq, Int.reduceBNe, Int.reduceBEq, Bool.true_beq, Bool.false_beq]
  refine awp_loop (fun m s h' => ∃ i : Nat, i + m = (l.take 15).length ∧ h' = h ∧ s = mk [(0, .sl 1 (l.map encI)), (3, .own true 5 1 ((packs 8 (l.take i)).map encB)), (4, .v (.int .i64 i))])
    (l.take 15).length _ (le_mk _ ?_) ⟨0, by omega, rfl, rfl⟩ ?_
  · simp only [List.forall_mem_cons, List.not_mem_nil, false_imp_iff, implies_true, and_true]
    simp -dsimp only [Vm.E, List.lookup, Nat.reduceAdd, Nat.reduceBEq, Int.reduceBNe, Int.reduceBEq, Bool.true_beq, Bool.false_beq]
    exact ⟨.refl _, .nil _ _ _ (by decide), .refl _⟩
  · rintro m s h' ⟨i, hi, rfl, rfl⟩
    have hlen : (l.take 15).length = min 15 l.length := List.length_take ..
    simp -dsimp only [Vm.E, List.lookup, Nat.reduceAdd, Nat.reduceBEq, Int.reduceBNe, Int.reduceBEq, Bool.true_beq, Bool.false_beq, Tryz.underlying41]
    by_cases a1 : i < l.length
    · have c1 : decide ((i : Int) < l.length) = true := decide_eq_true (by omega)
      simp -dsimp only [Vm.E, List.lookup, Nat.reduceAdd, Nat.reduceBEq, Int.reduceBNe, Int.reduceBEq, Bool.true_beq, Bool.false_beq, c1]
      by_cases a2 : i < 15
      · have c2 : decide ((i : Int) < 15) = true := decide_eq_true (by omega)
        simp -dsimp only [Vm.E, List.lookup, Nat.reduceAdd, Nat.reduceBEq, Int.reduceBNe, Int.reduceBEq, Bool.true_beq, Bool.false_beq, c2, es41, as41]
        refine idx_ints l i a1 ?_
        simp -dsimp only [Vm.E, List.lookup, Nat.reduceAdd, Nat.reduceBEq, Int.reduceBNe, Int.reduceBEq, Bool.true_beq, Bool.false_beq, of3]
        have hb := packs_length 8 (l.take i)
        have hti : (l.take i).length ≤ i := by rw [List.length_take]; omega
        have hr := hn l[i] (List.getElem_mem a1)
        have hw : IntKind.i64.wrap ((i : Int) + 1) = ((i + 1 : Nat) : Int) := by rw [wrap_i64 (by omega) (by omega)]; simp
        refine call_one (S := putSpec) rfl _ GaL.rfl ⟨packs 8 (l.take i), l[i], 8, by omega, hr.1, hr.2, rfl, ?_⟩
        simp only [putOf8, ← packs_take 8 l i a1]
        simp -dsimp only [Vm.E, List.lookup, Nat.reduceAdd, Nat.reduceBEq, Int.reduceBNe, Int.reduceBEq, Bool.true_beq, Bool.false_beq]
        refine kept_intro ⟨(l.take 15).length - (i + 1), by omega, _, le_mk [(0, .sl 1 (l.map encI)), (3, .own true 5 1 ((packs 8 (l.take (i + 1))).map encB)), (4, .v (.int .i64 (i + 1 : Nat)))] ?_, i + 1, by omega, rfl, rfl⟩
        simp only [List.forall_mem_cons, List.not_mem_nil, false_imp_iff, implies_true, and_true]
        simp -dsimp only [Vm.E, List.lookup, Nat.reduceAdd, Nat.reduceBEq, Int.reduceBNe, Int.reduceBEq, Bool.true_beq, Bool.false_beq, hw]
        exact ⟨.refl _, .refl _, .refl _⟩
      · have c2 : decide ((i : Int) < 15) = false := decide_eq_false (by omega)
        simp -dsimp only [Vm.E, List.lookup, Nat.reduceAdd, Nat.reduceBEq, Int.reduceBNe, Int.reduceBEq, Bool.true_beq, Bool.false_beq, c2, Tryz.results96]
        have : i = 15 := by omega
        subst this
        exact hq
    · have c1 : decide ((i : Int) < l.length) = false := decide_eq_false (by omega)
      simp -dsimp only [Vm.E, List.lookup, Nat.reduceAdd, Nat.reduceBEq, Int.reduceBNe, Int.reduceBEq, Bool.true_beq, Bool.false_beq, c1, Tryz.results96]
      unfold packOf at hq
      rw [List.take_of_length_le (by omega)] at hq
      rw [List.take_of_length_le (by omega)]
      exact hq
theorem does_rKey : Does Tryz.prog 95 keySpec := by
  refine does_of_awp (good_cons does_refPut good_nil) Tryz.func95 rfl (by decide +kernel) (by decide +kernel) ?_
  rintro args h Q ⟨tag, l, hl, rfl, hq⟩
  refine ⟨by simp [Tryz.f95], ?_⟩
  rw [awpFunc_some (by rfl)]
  simp -dsimp only [Vm.E, List.lookup, Nat.reduceAdd, Nat.reduceBEq, Int.reduceBNe, Int.reduceBEq, Bool.true_beq, Bool.false_beq, es45]
  refine bs_intro zr5 (by decide) (by decide) rfl rfl (by simp [solid, AV.cells]) ?_
  simp -dsimp only [Vm.E, List.lookup, Nat.reduceAdd, Nat.reduceBEq, Int.reduceBNe, Int.reduceBEq, Bool.true_beq, Bool.false_beq]
  refine awp_loop (fun m s h' => ∃ i : Nat, i + m = (l.take 7).length ∧ h' = h ∧ s = mk [(1, .sl 1 (l.map encI)), (5, .own true 5 1 ((tag :: packs 4 ((l.map clampK).take i)).map encB)), (6, .v (.int .i64 i))])
    (l.take 7).length _ (le_mk _ ?_) ⟨0, by omega, rfl, rfl⟩ ?_
  · simp only [List.forall_mem_cons, List.not_mem_nil, false_imp_iff, implies_true, and_true]
    simp -dsimp only [Vm.E, List.lookup, Nat.reduceAdd, Nat.reduceBEq, Int.reduceBNe, Int.reduceBEq, Bool.true_beq, Bool.false_beq]
    exact ⟨.refl _, .refl _, .refl _⟩
  · rintro m s h' ⟨i, hi, rfl, rfl⟩
    have hlen : (l.take 7).length = min 7 l.length := List.length_take ..
    simp -dsimp only [Vm.E, List.lookup, Nat.reduceAdd, Nat.reduceBEq, Int.reduceBNe, Int.reduceBEq, Bool.true_beq, Bool.false_beq, Tryz.underlying41]
    by_cases a1 : i < l.length
    · have c1 : decide ((i : Int) < l.length) = true := decide_eq_true (by omega)
      simp -dsimp only [Vm.E, List.lookup, Nat.reduceAdd, Nat.reduceBEq, Int.reduceBNe, Int.reduceBEq, Bool.true_beq, Bool.false_beq, c1]
      by_cases a2 : i < 7
      · have c2 : decide ((i : Int) < 7) = true := decide_eq_true (by omega)
        simp -dsimp only [Vm.E, List.lookup, Nat.reduceAdd, Nat.reduceBEq, Int.reduceBNe, Int.reduceBEq, Bool.true_beq, Bool.false_beq, c2, es41, as41]
        refine idx_ints l i a1 ?_
        simp -dsimp only [Vm.E, List.lookup, Nat.reduceAdd, Nat.reduceBEq, Int.reduceBNe, Int.reduceBEq, Bool.true_beq, Bool.false_beq, of3]
        have hlt' : i < (l.map clampK).length := by simpa using a1
        have hb := packs_length 4 ((l.map clampK).take i)
        have hti : ((l.map clampK).take i).length ≤ i := by rw [List.length_take]; omega
        have hr := clampK_range l[i]
        have hget : (l.map clampK)[i] = clampK l[i] := by simp
        have hw : IntKind.i64.wrap ((i : Int) + 1) = ((i + 1 : Nat) : Int) := by rw [wrap_i64 (by omega) (by omega)]; simp
        refine call_one (S := putSpec) rfl _ GaL.rfl ⟨tag :: packs 4 ((l.map clampK).take i), clampK l[i], 4, by simp only [List.length_cons]; omega, by omega, by omega, rfl, ?_⟩
        have hput : putOf (tag :: packs 4 ((l.map clampK).take i)) (clampK l[i]) 4 = tag :: packs 4 ((l.map clampK).take (i + 1)) := by
          rw [putOf4 _ _ hr.1 hr.2, List.cons_append, ← hget, ← packs_take 4 (l.map clampK) i hlt']
        simp only [hput]
        simp -dsimp only [Vm.E, List.lookup, Nat.reduceAdd, Nat.reduceBEq, Int.reduceBNe, Int.reduceBEq, Bool.true_beq, Bool.false_beq]
        refine kept_intro ⟨(l.take 7).length - (i + 1), by omega, _, le_mk [(1, .sl 1 (l.map encI)), (5, .own true 5 1 ((tag :: packs 4 ((l.map clampK).take (i + 1))).map encB)), (6, .v (.int .i64 (i + 1 : Nat)))] ?_, i + 1, by omega, rfl, rfl⟩
        simp only [List.forall_mem_cons, List.not_mem_nil, false_imp_iff, implies_true, and_true]
        simp -dsimp only [Vm.E, List.lookup, Nat.reduceAdd, Nat.reduceBEq, Int.reduceBNe, Int.reduceBEq, Bool.true_beq, Bool.false_beq, hw]
        exact ⟨.refl _, .refl _, .refl _⟩
      · have c2 : decide ((i : Int) < 7) = false := decide_eq_false (by omega)
        simp -dsimp only [Vm.E, List.lookup, Nat.reduceAdd, Nat.reduceBEq, Int.reduceBNe, Int.reduceBEq, Bool.true_beq, Bool.false_beq, c2, Tryz.results95]
        have : i = 7 := by omega
        subst this
        unfold keyOf at hq
        rw [List.map_take] at hq
        exact hq
    · have c1 : decide ((i : Int) < l.length) = false := decide_eq_false (by omega)
      simp -dsimp only [Vm.E, List.lookup, Nat.reduceAdd, Nat.reduceBEq, Int.reduceBNe, Int.reduceBEq, Bool.true_beq, Bool.false_beq, c1, Tryz.results95]
      unfold keyOf at hq
      rw [List.map_take, List.take_of_length_le (by simp; omega)] at hq
      rw [List.take_of_length_le (l := l.map clampK) (by simp; omega)]
      exact hq
theorem does_rUnpack : Does Tryz.prog 161 unpackSpec := by
  refine does_of_awp (good_cons does_refGet good_nil) Tryz.func161 rfl (by decide +kernel) (by decide +kernel) ?_
  rintro args h Q ⟨b, many, hl, hm, rfl, hq⟩
  refine ⟨by simp [Tryz.f161], ?_⟩
  rw [awpFunc_some (by rfl)]
  unfold unpackRes at hq
  simp -dsimp only [Vm.E, List.lookup, Nat.reduceAdd, Nat.reduceBEq, Int.reduceBNe, Int.reduceBEq, Bool.true_beq, Bool.false_beq]
  cases h0 : decide (many < 0)
  · have h0' : ¬ many < 0 := of_decide_eq_false h0
    simp -dsimp only [Vm.E, List.lookup, Nat.reduceAdd, Nat.reduceBEq, Int.reduceBNe, Int.reduceBEq, Bool.true_beq, Bool.false_beq]
    cases h1 : decide (many > 15)
    · have h1' : ¬ 15 < many := of_decide_eq_false h1
      rw [if_neg (by omega)] at hq
      have hw8 : IntKind.i64.wrap (8 * many) = 8 * many := wrap_i64 (by omega) (by omega)
      simp -dsimp only [Vm.E, List.lookup, Nat.reduceAdd, Nat.reduceBEq, Int.reduceBNe, Int.reduceBEq, Bool.true_beq, Bool.false_beq, Tryz.underlying45, hw8]
      cases h2 : ((b.length : Int) != 8 * many)
      · have h2' : (b.length : Int) = 8 * many := by simpa using h2
        rw [if_neg (by omega)] at hq
        obtain ⟨k, rfl⟩ : ∃ k : Nat, many = k := ⟨many.toNat, by omega⟩
        rw [Int.toNat_natCast] at hq
        have hk : k ≤ 15 := by omega
        simp -dsimp only [Vm.E, List.lookup, Nat.reduceAdd, Nat.reduceBEq, Int.reduceBNe, Int.reduceBEq, Bool.true_beq, Bool.false_beq]
        refine awp_loop (fun m s h' => ∃ i : Nat, i + m = k ∧ h' = h ∧ s = mk [(0, .sl 1 (b.map encB)), (1, .v (.int .i64 k)), (6, .own true 3 1 ((numsOf b i).map encI)), (7, .v (.int .i64 i))])
          k _ (le_mk _ ?_) ⟨0, by omega, rfl, rfl⟩ ?_
        · simp only [List.forall_mem_cons, List.not_mem_nil, false_imp_iff, implies_true, and_true]
          simp -dsimp only [Vm.E, List.lookup, Nat.reduceAdd, Nat.reduceBEq, Int.reduceBNe, Int.reduceBEq, Bool.true_beq, Bool.false_beq]
          exact ⟨.refl _, .refl _, .nil _ _ _ (by decide), .refl _⟩
        · rintro m s h' ⟨i, hi, rfl, rfl⟩
          simp -dsimp only [Vm.E, List.lookup, Nat.reduceAdd, Nat.reduceBEq, Int.reduceBNe, Int.reduceBEq, Bool.true_beq, Bool.false_beq]
          refine cond_intro (fun hc => ?_) (fun hc => ?_)
          · have hlt : i < k := by have := of_decide_eq_true hc; omega
            have hwi : IntKind.i64.wrap (8 * (i : Int)) = ((8 * i : Nat) : Int) := by rw [wrap_i64 (by omega) (by omega)]; simp
            have hw : IntKind.i64.wrap ((i : Int) + 1) = ((i + 1 : Nat) : Int) := by rw [wrap_i64 (by omega) (by omega)]; simp
            simp -dsimp only [Vm.E, List.lookup, Nat.reduceAdd, Nat.reduceBEq, Int.reduceBNe, Int.reduceBEq, Bool.true_beq, Bool.false_beq, hwi]
            refine call_one (S := getSpec) rfl _ GaL.rfl ⟨b, ((8 * i : Nat) : Int), 8, by omega, by omega, rfl, ?_⟩
            simp only [getRes8 b i (by omega)]
            simp -dsimp only [Vm.E, List.lookup, Nat.reduceAdd, Nat.reduceBEq, Int.reduceBNe, Int.reduceBEq, Bool.true_beq, Bool.false_beq, es41]
            refine bs_intro zr3 (by decide) (by decide) rfl rfl (by simp [solid, AV.cells]) ?_
            simp -dsimp only [Vm.E, List.lookup, Nat.reduceAdd, Nat.reduceBEq, Int.reduceBNe, Int.reduceBEq, Bool.true_beq, Bool.false_beq, append_own ei41]
            refine app_sl Tryz.underlying41 (by simp [AV.cells]) (by simp [numsOf]; omega) ?_
            simp -dsimp only [Vm.E, List.lookup, Nat.reduceAdd, Nat.reduceBEq, Int.reduceBNe, Int.reduceBEq, Bool.true_beq, Bool.false_beq]
            have e3 : (numsOf b i).map encI ++ [AV.v (.int .i64 (num8 b i))] = (numsOf b (i + 1)).map encI := by simp [numsOf, List.range_succ, encI]
            refine kept_intro ⟨k - (i + 1), by omega, _, le_mk [(0, .sl 1 (b.map encB)), (1, .v (.int .i64 k)), (6, .own true 3 1 ((numsOf b (i + 1)).map encI)), (7, .v (.int .i64 (i + 1 : Nat)))] ?_, i + 1, by omega, rfl, rfl⟩
            simp only [List.forall_mem_cons, List.not_mem_nil, false_imp_iff, implies_true, and_true]
            simp -dsimp only [Vm.E, List.lookup, Nat.reduceAdd, Nat.reduceBEq, Int.reduceBNe, Int.reduceBEq, Bool.true_beq, Bool.false_beq, hw, e3]
            exact ⟨.refl _, .refl _, .refl _, .refl _⟩
          · have hge : ¬ i < k := by have := of_decide_eq_false hc; omega
            simp -dsimp only [Vm.E, List.lookup, Nat.reduceAdd, Nat.reduceBEq, Int.reduceBNe, Int.reduceBEq, Bool.true_beq, Bool.false_beq, Tryz.results161]
            obtain rfl : i = k := by omega
            exact hq
      · have h2' : ¬ (b.length : Int) = 8 * many := by simpa using h2
        rw [if_pos h2'] at hq
        simp -dsimp only [Vm.E, List.lookup, Nat.reduceAdd, Nat.reduceBEq, Int.reduceBNe, Int.reduceBEq, Bool.true_beq, Bool.false_beq, Tryz.results161]
        exact hq
    · have h1' : 15 < many := of_decide_eq_true h1
      rw [if_pos (.inr h1')] at hq
      simp -dsimp only [Vm.E, List.lookup, Nat.reduceAdd, Nat.reduceBEq, Int.reduceBNe, Int.reduceBEq, Bool.true_beq, Bool.false_beq, Tryz.results161]
      exact hq
  · have h0' : many < 0 := of_decide_eq_true h0
    rw [if_pos (.inl h0')] at hq
    simp -dsimp only [Vm.E, List.lookup, Nat.reduceAdd, Nat.reduceBEq, Int.reduceBNe, Int.reduceBEq, Bool.true_beq, Bool.false_beq, Tryz.results161]
    exact hq
end Go.Proofs.Lx
/- The reference's view. -/
set_option linter.unusedSimpArgs false
set_option linter.unusedVariables false
namespace Go.Proofs.Lx
open Go.Vm
attribute [local irreducible] awpArr awpBin awpMake awpAppend awpCvX awpStrOf awpBinX awpSlice awpBS awpStore awpAlloc awpCopy awpIndex awpDraw awpIdxX awpFa awpField awpLookup awpUpdate awpDelete awpClear awpRange awpNext awpEntry awpBuild awpClearS awpIdxL
def GaO (x y : AObj) : Prop := x = y ∨ ∃ a b, x = .cells a ∧ y = .cells b ∧ GaL a b
def GaH (h h' : Heap) : Prop := h.length = h'.length ∧ ∀ (i : Nat) (o' : AObj), h'[i]? = some o' → ∃ o : AObj, h[i]? = some o ∧ GaO o o'
theorem GaH.rep {w : World} {g : Gh} {h h' : Heap} (hg : GaH h h') (hh : HeapRep w g h) : HeapRep w g h' := by
  refine ⟨hg.1 ▸ hh.n, hh.lt, hh.inj, fun i o' ho' => ?_⟩
  obtain ⟨o, ho, hgo⟩ := hg.2 i o' ho'
  have hr := hh.obj i o ho
  rcases hgo with rfl | ⟨a, b, rfl, rfl, hab⟩
  · exact hr
  · obtain ⟨vs, e, h1, h2, h3, h4, h5⟩ := hr
    obtain ⟨q1, q2⟩ := gaL_rep (w := w) (g := g) hab
    exact ⟨vs, e, h1, q1 ▸ h2, h3, fun j hj => h4 j (by omega), q2 (fun j => vs.getD j undef) h5⟩
def WeakH (S : Vm.Spec) : Vm.Spec := fun args h Q => ∃ h', GaH h h' ∧ S args h' fun r h2 => ∃ h3, GaH h2 h3 ∧ Q r h3
theorem does_weakH {P : Program} {f : FuncId} {S : Vm.Spec} (hd : Does P f S) : Does P f (WeakH S) := by
  refine ⟨hd.1, fun args h Q ⟨h', hg, hS⟩ w g vs hvs hrep hh hf hlaid => (hd.2 args h' _ hS w g vs hvs hrep (hg.rep hh) hf hlaid).mono ?_⟩
  rintro e w' ⟨r, h2, g', v, ⟨h3, hg3, hq⟩, he, hres, hhr, hrest⟩
  exact ⟨r, h3, g', v, hq, he, hres, hg3.rep hhr, hrest⟩
theorem GaH.refl (h : Heap) : GaH h h := ⟨rfl, fun i o ho => ⟨o, ho, .inl rfl⟩⟩
theorem GaH.append {h : Heap} {a b : List AObj} (hab : a.length = b.length) (hi : ∀ (i : Nat) (o' : AObj), b[i]? = some o' → ∃ o, a[i]? = some o ∧ GaO o o') : GaH (h ++ a) (h ++ b) := by
  refine ⟨by simp [hab], fun i o' ho' => ?_⟩
  rcases Nat.lt_or_ge i h.length with hl | hl
  · rw [List.getElem?_append_left hl] at ho' ⊢
    exact ⟨o', ho', .inl rfl⟩
  · rw [List.getElem?_append_right hl] at ho' ⊢
    exact hi _ _ ho'
structure RId where
  iv : Nat
  iw : Nat
  inn : Nat
  it : Nat
/-- A view of the reference: what each key has. -/
def isRef (h : Heap) (R : RId) (f : Fun) : Prop :=
  ∃ lw ln lt : List KV, h[R.iv]? = some (.cells [.ptr R.iw 0, .ptr R.inn 0, .ptr R.it 0]) ∧ h[R.iw]? = some (tabObj lw) ∧ h[R.inn]? = some (tabObj ln) ∧ h[R.it]? = some (tabObj lt) ∧
    (R.iv ≠ R.inn ∧ R.iv ≠ R.it ∧ R.inn ≠ R.it ∧ R.iw ≠ R.inn ∧ R.iw ≠ R.it) ∧ TabIs f ln ∧ (ln.length ≤ f.n ∧ lt.length ≤ f.n) ∧ ∀ p ∈ ln, p.1.length ≤ 32 ∧ p.2.length ≤ 120
def rFoot (R : RId) : List Nat := [R.inn, R.it]
theorem isRef.len {h : Heap} {R : RId} {f : Fun} (hR : isRef h R f) {k l : List UInt8} (hf : f k = some l) : k.length ≤ 32 ∧ l.length ≤ 120 := by
  obtain ⟨lw, ln, lt, -, -, -, -, -, h6, -, h8⟩ := hR
  exact h8 (k, l) ((h6.2 k l).2 hf)
def rNewH (h : Heap) : Heap := h ++ [tabObj [], tabObj [], tabObj [], .cells [.ptr h.length 0, .ptr (h.length + 1) 0, .ptr (h.length + 2) 0]]
def rNewId (h : Heap) : RId := ⟨h.length + 3, h.length, h.length + 1, h.length + 2⟩
def rNewSpec : Vm.Spec := fun args h Q => args = [.sl 2 []] ∧ Q (.ptr (rNewId h).iv 0) (rNewH h)
theorem does_rNew0 : Does Tryz.prog 20 (fun args h Q => args = [.sl 2 []] ∧ Q (.ptr (h.length + 3) 0) (h ++ [tabObj [], tabObj [], .cells [.v (.slice none 0 0)], .cells [.ptr h.length 0, .ptr (h.length + 1) 0, .ptr (h.length + 2) 0]])) := by
  refine does_of_awp good_nil Tryz.func20 rfl (by decide +kernel) (by decide +kernel) ?_
  rintro args h Q ⟨rfl, hq⟩
  refine ⟨by simp [Tryz.f20], ?_⟩
  rw [awpFunc_some (by rfl)]
  unfold tabObj at hq
  simp -dsimp only [Vm.E, List.lookup, Nat.reduceAdd, Nat.reduceBEq, Int.reduceBNe, Int.reduceBEq, Bool.true_beq, Bool.false_beq, Vm.S, Nat.reduceLeDiff, bd129, bd131, Tryz.results20]
  simpa using hq
theorem does_rNew : Does Tryz.prog 20 rNewSpec := by
  refine (does_weakH does_rNew0).imp ?_
  rintro args h Q ⟨rfl, hq⟩
  refine ⟨h, .refl h, rfl, rNewH h, ?_, hq⟩
  refine GaH.append rfl fun i o' ho' => ?_
  match i, ho' with
  | 0, ho' => exact ⟨o', ho', .inl rfl⟩
  | 1, ho' => exact ⟨o', ho', .inl rfl⟩
  | 2, ho' => exact ⟨_, rfl, .inr ⟨_, _, rfl, (Option.some.inj ho').symm, .cons (.nil 2) .nil⟩⟩
  | 3, ho' => exact ⟨o', ho', .inl rfl⟩
  | i + 4, ho' => simp at ho'
theorem isRef_new (h : Heap) : isRef (rNewH h) (rNewId h) noF := by
  unfold rNewH rNewId
  refine ⟨[], [], [], ?_, ?_, ?_, ?_, ⟨by simp, by simp, by simp, by simp, by simp⟩, TabIs.new, ⟨by simp, by simp⟩, by simp⟩
  · rw [List.getElem?_append_right (by simp)]; simp
  · rw [List.getElem?_append_right (by simp)]; simp
  · rw [List.getElem?_append_right (by simp)]; simp
  · rw [List.getElem?_append_right (by simp)]; simp
def rGetSpec : Vm.Spec := fun args h Q => ∃ (R : RId) (f : Fun) (k : List UInt8), args = [.ptr R.iv 0, .sl 1 (k.map encB)] ∧ isRef h R f ∧ f.n ≤ 536870912 ∧
  (∀ l, f k = some l → Q (.tup [.sl 1 (l.map encB), .v (.bool true)]) h) ∧ (f k = none → Q (.tup [.sl 1 [], .v (.bool false)]) h)
theorem does_rGet : Does Tryz.prog 130 rGetSpec := by
  refine Does.imp (S := Weak fun args h Q => ∃ (R : RId) (f : Fun) (k : List UInt8), args = [.ptr R.iv 0, .sl 1 (k.map encB)] ∧ isRef h R f ∧ f.n ≤ 536870912 ∧
    (∀ l, f k = some l → Q (.tup [.sl 1 (l.map encB), .v (.bool true)]) h) ∧ (f k = none → Q (.tup [.v (.slice none 0 0), .v (.bool false)]) h)) (Does.weak ?_) ?_
  · refine does_of_awp (good_cons does_tGet good_nil) Tryz.func130 rfl (by decide +kernel) (by decide +kernel) ?_
    rintro args h Q ⟨R, f, k, rfl, hR, hn, hq1, hq2⟩
    refine ⟨by simp [Tryz.f130], ?_⟩
    rw [awpFunc_some (by rfl)]
    obtain ⟨lw, ln, lt, h1, h2, h3, h4, h5, h6, h7, h8⟩ := hR
    simp -dsimp only [Vm.E, List.lookup, Nat.reduceAdd, Nat.reduceBEq, Int.reduceBNe, Int.reduceBEq, Bool.true_beq, Bool.false_beq, Vm.S, Nat.reduceLeDiff, fo131_1, h1, of127]
    refine call_one (S := tGetSpec) rfl _ GaL.rfl ⟨R.inn, ln, k, rfl, h3, by omega, fun p hp => by have := (h8 p hp).2; omega, fun v hv => ?_, fun hv => ?_⟩
    · rw [h6.find] at hv
      simp -dsimp only [Vm.E, List.lookup, Nat.reduceAdd, Nat.reduceBEq, Int.reduceBNe, Int.reduceBEq, Bool.true_beq, Bool.false_beq, Tryz.results130]
      exact hq1 v hv
    · rw [h6.find] at hv
      simp -dsimp only [Vm.E, List.lookup, Nat.reduceAdd, Nat.reduceBEq, Int.reduceBNe, Int.reduceBEq, Bool.true_beq, Bool.false_beq, Tryz.results130]
      exact hq2 hv
  · rintro args h Q ⟨R, f, k, rfl, hR, hn, hq1, hq2⟩
    exact ⟨R, f, k, rfl, hR, hn, fun l hf => ⟨_, .refl _, hq1 l hf⟩, fun hf => ⟨_, .tup (.cons (.nil 1) GaL.rfl), hq2 hf⟩⟩
def rPutSpec : Vm.Spec := fun args h Q => ∃ (R : RId) (f : Fun) (k v : List UInt8), args = [.ptr R.iv 0, .sl 1 (k.map encB), .sl 1 (v.map encB)] ∧ isRef h R f ∧ f.n ≤ 536870912 ∧
  (rightKV k v = true → ∀ h', isRef h' R (upd f k (some v)) → Same h h' (rFoot R) → Q (.v (.int .i64 0)) h') ∧ (rightKV k v = false → Q (.v (.int .i64 1)) h)
theorem does_rPut : Does Tryz.prog 91 rPutSpec := by
  refine does_of_awp (good_cons does_rRight (good_cons does_tPut good_nil)) Tryz.func91 rfl (by decide +kernel) (by decide +kernel) ?_
  rintro args h Q ⟨R, f, k, v, rfl, hR, hn, hq1, hq2⟩
  refine ⟨by simp [Tryz.f91], ?_⟩
  rw [awpFunc_some (by rfl)]
  obtain ⟨lw, ln, lt, h1, h2, h3, h4, h5, h6, h7, h8⟩ := hR
  simp -dsimp only [Vm.E, List.lookup, Nat.reduceAdd, Nat.reduceBEq, Int.reduceBNe, Int.reduceBEq, Bool.true_beq, Bool.false_beq, Vm.S, Nat.reduceLeDiff]
  refine call_one (S := rRightSpec) rfl _ GaL.rfl ⟨k, v, rfl, ?_⟩
  cases hr : rightKV k v
  · simp -dsimp only [Vm.E, List.lookup, Nat.reduceAdd, Nat.reduceBEq, Int.reduceBNe, Int.reduceBEq, Bool.true_beq, Bool.false_beq, Tryz.results91]
    exact hq2 hr
  · have hrk : k.length ≤ 32 ∧ v.length ≤ 120 := by unfold rightKV at hr; simp at hr; omega
    simp -dsimp only [Vm.E, List.lookup, Nat.reduceAdd, Nat.reduceBEq, Int.reduceBNe, Int.reduceBEq, Bool.true_beq, Bool.false_beq, Vm.S, Nat.reduceLeDiff, fo131_2, h1, of127]
    refine call_one (S := tPutSpec) rfl _ (.cons (.refl _) (.cons (.refl _) (.cons (.nil 1) .nil))) ⟨R.it, lt, k, [], rfl, h4, by omega, by omega, by simp, ?_⟩
    have hi : ∀ {i : Nat} {o : AObj} {h : Heap}, h[i]? = some o → i < h.length := fun {i o h} hx => by
      rcases Nat.lt_or_ge i h.length with h' | h'
      · exact h'
      · rw [List.getElem?_eq_none h'] at hx; cases hx
    have g1 : (h.set R.it (tabObj (tput k [] lt)))[R.iv]? = some (.cells [.ptr R.iw 0, .ptr R.inn 0, .ptr R.it 0]) := by rw [List.getElem?_set_ne (by exact fun e => h5.2.1 e.symm)]; exact h1
    have g3 : (h.set R.it (tabObj (tput k [] lt)))[R.inn]? = some (tabObj ln) := by rw [List.getElem?_set_ne (by exact fun e => h5.2.2.1 e.symm)]; exact h3
    have g2 : (h.set R.it (tabObj (tput k [] lt)))[R.iw]? = some (tabObj lw) := by rw [List.getElem?_set_ne (by exact fun e => h5.2.2.2.2 e.symm)]; exact h2
    have g4 : (h.set R.it (tabObj (tput k [] lt)))[R.it]? = some (tabObj (tput k [] lt)) := List.getElem?_set_self (hi h4)
    have gs : Same h (h.set R.it (tabObj (tput k [] lt))) (rFoot R) := ⟨by simp, fun i hl hi => List.getElem?_set_ne (by simp [rFoot] at hi; exact fun e => hi.2 e.symm)⟩
    generalize h.set R.it (tabObj (tput k [] lt)) = h2' at g1 g2 g3 g4 gs ⊢
    simp -dsimp only [Vm.E, List.lookup, Nat.reduceAdd, Nat.reduceBEq, Int.reduceBNe, Int.reduceBEq, Bool.true_beq, Bool.false_beq, Vm.S, Nat.reduceLeDiff, fo131_1, g1, of127]
    refine call_one (S := tPutSpec) rfl _ GaL.rfl ⟨R.inn, ln, k, v, rfl, g3, by omega, by omega, by omega, ?_⟩
    simp -dsimp only [Vm.E, List.lookup, Nat.reduceAdd, Nat.reduceBEq, Int.reduceBNe, Int.reduceBEq, Bool.true_beq, Bool.false_beq, Tryz.results91]
    refine hq1 hr _ ⟨lw, tput k v ln, tput k [] lt, ?_, ?_, ?_, ?_, h5, h6.put k v, ⟨?_, ?_⟩, fun p hp => ?_⟩ ?_
    · rw [List.getElem?_set_ne (by exact fun e => h5.1 e.symm)]; exact g1
    · rw [List.getElem?_set_ne (by exact fun e => h5.2.2.2.1 e.symm)]; exact g2
    · exact List.getElem?_set_self (hi g3)
    · rw [List.getElem?_set_ne h5.2.2.1]; exact g4
    · have := tput_length k v ln; show _ ≤ f.n + 1; omega
    · have := tput_length k [] lt; show _ ≤ f.n + 1; omega
    · rcases tput_mem1 hp with rfl | hp
      · exact hrk
      · exact h8 p hp
    · exact ⟨by rw [List.length_set]; exact gs.1, fun i hl hi => by
        rw [List.getElem?_set_ne (by simp [rFoot] at hi; exact fun e => hi.1 e.symm)]; exact gs.2 i hl hi⟩
def rSetSpec : Vm.Spec := fun args h Q => ∃ (R : RId) (f : Fun) (p : KV), args = [.ptr R.iv 0, kvAv p] ∧ isRef h R f ∧ f.n ≤ 536870912 ∧
  ∀ h', isRef h' R (if rightKV p.1 p.2 then upd f p.1 (some p.2) else f) → Same h h' (rFoot R) → Q (.tup []) h'
theorem does_rSet : Does Tryz.prog 22 rSetSpec := by
  refine does_of_awp (good_cons does_rPut good_nil) Tryz.func22 rfl (by decide +kernel) (by decide +kernel) ?_
  rintro args h Q ⟨R, f, ⟨k, v⟩, rfl, hR, hn, hq⟩
  refine ⟨by simp [Tryz.f22], ?_⟩
  rw [awpFunc_some (by rfl)]
  simp only [kvAv]
  simp -dsimp only [Vm.E, List.lookup, Nat.reduceAdd, Nat.reduceBEq, Int.reduceBNe, Int.reduceBEq, Bool.true_beq, Bool.false_beq, Vm.S, Nat.reduceLeDiff, fo47_0, fo47_1, of45]
  refine call_one (S := rPutSpec) rfl _ GaL.rfl ⟨R, f, k, v, rfl, hR, hn, fun hr h' g1 g2 => ?_, fun hr => ?_⟩
  · simp -dsimp only [Vm.E, List.lookup, Nat.reduceAdd, Nat.reduceBEq, Int.reduceBNe, Int.reduceBEq, Bool.true_beq, Bool.false_beq, Tryz.results22]
    exact hq h' (by simp only [hr, if_true]; exact g1) g2
  · simp -dsimp only [Vm.E, List.lookup, Nat.reduceAdd, Nat.reduceBEq, Int.reduceBNe, Int.reduceBEq, Bool.true_beq, Bool.false_beq, Tryz.results22]
    exact hq h (by simp only [hr]; exact hR) (.refl _ _)
end Go.Proofs.Lx
/- The reference's numbers and years. -/
set_option linter.unusedSimpArgs false
set_option linter.unusedVariables false
namespace Go.Proofs.Lx
open Go.Vm
attribute [local irreducible] awpArr awpBin awpMake awpAppend awpCvX awpStrOf awpBinX awpSlice awpBS awpStore awpAlloc awpCopy awpIndex awpDraw awpIdxX awpFa awpField awpLookup awpUpdate awpDelete awpClear awpRange awpNext awpEntry awpBuild awpClearS awpIdxL
def rNumSpec : Vm.Spec := fun args h Q => ∃ (R : RId) (f : Fun) (k : List UInt8), args = [.ptr R.iv 0, .sl 1 (k.map encB)] ∧ isRef h R f ∧ f.n ≤ 536870912 ∧ ∀ b, Q (.tup [.v (.int .i64 (readOf f k)), .v (.bool b)]) h
theorem does_rNum : Does Tryz.prog 97 rNumSpec := by
  refine does_of_awp (good_cons does_rGet (good_cons does_rUnpack good_nil)) Tryz.func97 rfl (by decide +kernel) (by decide +kernel) ?_
  rintro args h Q ⟨R, f, k, rfl, hR, hn, hq⟩
  refine ⟨by simp [Tryz.f97], ?_⟩
  rw [awpFunc_some (by rfl)]
  unfold readOf at hq
  have hlen := fun l hf => (hR.len (k := k) (l := l) hf).2
  simp -dsimp only [Vm.E, List.lookup, Nat.reduceAdd, Nat.reduceBEq, Int.reduceBNe, Int.reduceBEq, Bool.true_beq, Bool.false_beq]
  refine call_one (S := rGetSpec) rfl _ GaL.rfl ⟨R, f, k, rfl, hR, hn, fun l hf => ?_, fun hf => ?_⟩
  · have hl := hlen l hf
    rw [hf] at hq
    have hq : ∀ b, Q (.tup [.v (.int .i64 (if l.length = 8 then num8 l 0 else 0)), .v (.bool b)]) h := hq
    simp -dsimp only [Vm.E, List.lookup, Nat.reduceAdd, Nat.reduceBEq, Int.reduceBNe, Int.reduceBEq, Bool.true_beq, Bool.false_beq]
    refine call_one (S := unpackSpec) rfl _ GaL.rfl ⟨l, 1, by omega, by unfold I64; omega, rfl, ?_⟩
    unfold unpackRes
    by_cases h8 : l.length = 8
    · rw [if_pos h8] at hq
      rw [if_neg (by omega), if_neg (by simp [h8])]
      have e0 : (numsOf l 1)[0]'(by simp [numsOf]) = num8 l 0 := by simp [numsOf]
      simp -dsimp only [Vm.E, List.lookup, Nat.reduceAdd, Nat.reduceBEq, Int.reduceBNe, Int.reduceBEq, Bool.true_beq, Bool.false_beq, bne_self_eq_false, es41, as41]
      refine idx_ints (numsOf l 1) 0 (by simp [numsOf]) ?_
      simp -dsimp only [Vm.E, List.lookup, Nat.reduceAdd, Nat.reduceBEq, Int.reduceBNe, Int.reduceBEq, Bool.true_beq, Bool.false_beq, of3, e0, Tryz.results97]
      exact hq true
    · rw [if_neg h8] at hq
      rw [if_neg (by omega), if_pos (by omega)]
      simp -dsimp only [Vm.E, List.lookup, Nat.reduceAdd, Nat.reduceBEq, Int.reduceBNe, Int.reduceBEq, Bool.true_beq, Bool.false_beq, Tryz.results97]
      exact hq false
  · rw [hf] at hq
    simp -dsimp only [Vm.E, List.lookup, Nat.reduceAdd, Nat.reduceBEq, Int.reduceBNe, Int.reduceBEq, Bool.true_beq, Bool.false_beq]
    refine call_one (S := unpackSpec) rfl _ GaL.rfl ⟨[], 1, by simp, by unfold I64; omega, rfl, ?_⟩
    unfold unpackRes
    rw [if_neg (by omega), if_pos (by simp)]
    simp -dsimp only [Vm.E, List.lookup, Nat.reduceAdd, Nat.reduceBEq, Int.reduceBNe, Int.reduceBEq, Bool.true_beq, Bool.false_beq, Tryz.results97]
    exact hq false
def rLastSpec : Vm.Spec := fun args h Q => ∃ (R : RId) (f : Fun) (which : Int), args = [.ptr R.iv 0, .v (.int .i64 which)] ∧ isRef h R f ∧ f.n ≤ 536870912 ∧ Q (.v (.int .i64 (readOf f (seqKey which)))) h
theorem does_rLast : Does Tryz.prog 26 rLastSpec := by
  refine does_of_awp (good_cons does_rKey (good_cons does_rNum good_nil)) Tryz.func26 rfl (by decide +kernel) (by decide +kernel) ?_
  rintro args h Q ⟨R, f, which, rfl, hR, hn, hq⟩
  refine ⟨by simp [Tryz.f26], ?_⟩
  rw [awpFunc_some (by rfl)]
  simp -dsimp only [Vm.E, List.lookup, Nat.reduceAdd, Nat.reduceBEq, Int.reduceBNe, Int.reduceBEq, Bool.true_beq, Bool.false_beq, es41]
  refine bs_intro zr3 (by decide) (by decide) rfl rfl (by simp [solid, AV.cells]) ?_
  simp -dsimp only [Vm.E, List.lookup, Nat.reduceAdd, Nat.reduceBEq, Int.reduceBNe, Int.reduceBEq, Bool.true_beq, Bool.false_beq]
  refine call_one (S := keySpec) rfl _ GaL.rfl ⟨83, [which], by simp, rfl, ?_⟩
  simp -dsimp only [Vm.E, List.lookup, Nat.reduceAdd, Nat.reduceBEq, Int.reduceBNe, Int.reduceBEq, Bool.true_beq, Bool.false_beq]
  refine call_one (S := rNumSpec) rfl _ GaL.rfl ⟨R, f, seqKey which, rfl, hR, hn, fun b => ?_⟩
  simp -dsimp only [Vm.E, List.lookup, Nat.reduceAdd, Nat.reduceBEq, Int.reduceBNe, Int.reduceBEq, Bool.true_beq, Bool.false_beq, Tryz.results26]
  exact hq
def rNextSpec : Vm.Spec := fun args h Q => ∃ (R : RId) (f : Fun) (which : Int), args = [.ptr R.iv 0, .v (.int .i64 which)] ∧ isRef h R f ∧ f.n ≤ 536870912 ∧
  (readOf f (seqKey which) < 0 ∨ 4294967294 < readOf f (seqKey which) → Q (.tup [.v (.int .i64 0), .v (.int .i64 9)]) h) ∧
  (¬ (readOf f (seqKey which) < 0 ∨ 4294967294 < readOf f (seqKey which)) → ∀ h', isRef h' R (upd f (seqKey which) (some (be 8 (readOf f (seqKey which) + 1)))) → Same h h' (rFoot R) →
    Q (.tup [.v (.int .i64 (readOf f (seqKey which) + 1)), .v (.int .i64 0)]) h')
theorem does_rNext : Does Tryz.prog 24 rNextSpec := by
  refine does_of_awp (good_cons does_rLast (good_cons does_rKey (good_cons does_rPack (good_cons does_rPut good_nil)))) Tryz.func24 rfl (by decide +kernel) (by decide +kernel) ?_
  rintro args h Q ⟨R, f, which, rfl, hR, hn, hq1, hq2⟩
  refine ⟨by simp [Tryz.f24], ?_⟩
  rw [awpFunc_some (by rfl)]
  have hr := readOf_range f (seqKey which)
  simp -dsimp only [Vm.E, List.lookup, Nat.reduceAdd, Nat.reduceBEq, Int.reduceBNe, Int.reduceBEq, Bool.true_beq, Bool.false_beq]
  refine call_one (S := rLastSpec) rfl _ GaL.rfl ⟨R, f, which, rfl, hR, hn, ?_⟩
  generalize readOf f (seqKey which) = n at hr hq1 hq2 ⊢
  unfold I64 at hr
  simp -dsimp only [Vm.E, List.lookup, Nat.reduceAdd, Nat.reduceBEq, Int.reduceBNe, Int.reduceBEq, Bool.true_beq, Bool.false_beq]
  cases c1 : decide (n < 0)
  · simp -dsimp only [Vm.E, List.lookup, Nat.reduceAdd, Nat.reduceBEq, Int.reduceBNe, Int.reduceBEq, Bool.true_beq, Bool.false_beq]
    cases c2 : decide (n > 4294967294)
    · have d1 := of_decide_eq_false c1
      have d2 := of_decide_eq_false c2
      have hw : IntKind.i64.wrap (n + 1) = n + 1 := wrap_i64 (by omega) (by omega)
      simp -dsimp only [Vm.E, List.lookup, Nat.reduceAdd, Nat.reduceBEq, Int.reduceBNe, Int.reduceBEq, Bool.true_beq, Bool.false_beq, es41]
      refine bs_intro zr3 (by decide) (by decide) rfl rfl (by simp [solid, AV.cells]) ?_
      simp -dsimp only [Vm.E, List.lookup, Nat.reduceAdd, Nat.reduceBEq, Int.reduceBNe, Int.reduceBEq, Bool.true_beq, Bool.false_beq]
      refine call_one (S := keySpec) rfl _ GaL.rfl ⟨83, [which], by simp, rfl, ?_⟩
      simp -dsimp only [Vm.E, List.lookup, Nat.reduceAdd, Nat.reduceBEq, Int.reduceBNe, Int.reduceBEq, Bool.true_beq, Bool.false_beq, hw, es41]
      refine bs_intro zr3 (by decide) (by decide) rfl rfl (by simp [solid, AV.cells]) ?_
      simp -dsimp only [Vm.E, List.lookup, Nat.reduceAdd, Nat.reduceBEq, Int.reduceBNe, Int.reduceBEq, Bool.true_beq, Bool.false_beq]
      refine call_one (S := packSpec) rfl _ GaL.rfl ⟨[n + 1], by simp, fun m hm => by simp at hm; subst hm; unfold I64; omega, rfl, ?_⟩
      simp only [packOf_one]
      simp -dsimp only [Vm.E, List.lookup, Nat.reduceAdd, Nat.reduceBEq, Int.reduceBNe, Int.reduceBEq, Bool.true_beq, Bool.false_beq]
      refine call_one (S := rPutSpec) rfl _ GaL.rfl ⟨R, f, seqKey which, be 8 (n + 1), rfl, hR, hn, fun _ h' g1 g2 => ?_, fun hc => by rw [right_seq] at hc; cases hc⟩
      simp -dsimp only [Vm.E, List.lookup, Nat.reduceAdd, Nat.reduceBEq, Int.reduceBNe, Int.reduceBEq, Bool.true_beq, Bool.false_beq, hw, Tryz.results24]
      exact hq2 (by omega) h' g1 g2
    · have d2 := of_decide_eq_true c2
      simp -dsimp only [Vm.E, List.lookup, Nat.reduceAdd, Nat.reduceBEq, Int.reduceBNe, Int.reduceBEq, Bool.true_beq, Bool.false_beq, Tryz.results24]
      exact hq1 (by omega)
  · have d1 := of_decide_eq_true c1
    simp -dsimp only [Vm.E, List.lookup, Nat.reduceAdd, Nat.reduceBEq, Int.reduceBNe, Int.reduceBEq, Bool.true_beq, Bool.false_beq, Tryz.results24]
    exact hq1 (by omega)
def rStateSpec : Vm.Spec := fun args h Q => ∃ (R : RId) (f : Fun) (n : Int), args = [.ptr R.iv 0, .v (.int .i64 n)] ∧ isRef h R f ∧ f.n ≤ 536870912 ∧ Q (.v (.int .i64 (stateOf f n))) h
theorem does_rState : Does Tryz.prog 45 rStateSpec := by
  refine does_of_awp (good_cons does_rKey (good_cons does_rNum good_nil)) Tryz.func45 rfl (by decide +kernel) (by decide +kernel) ?_
  rintro args h Q ⟨R, f, n, rfl, hR, hn, hq⟩
  refine ⟨by simp [Tryz.f45], ?_⟩
  rw [awpFunc_some (by rfl)]
  unfold stateOf at hq
  simp -dsimp only [Vm.E, List.lookup, Nat.reduceAdd, Nat.reduceBEq, Int.reduceBNe, Int.reduceBEq, Bool.true_beq, Bool.false_beq, es41]
  refine bs_intro zr3 (by decide) (by decide) rfl rfl (by simp [solid, AV.cells]) ?_
  simp -dsimp only [Vm.E, List.lookup, Nat.reduceAdd, Nat.reduceBEq, Int.reduceBNe, Int.reduceBEq, Bool.true_beq, Bool.false_beq]
  refine call_one (S := keySpec) rfl _ GaL.rfl ⟨89, [n], by simp, rfl, ?_⟩
  simp -dsimp only [Vm.E, List.lookup, Nat.reduceAdd, Nat.reduceBEq, Int.reduceBNe, Int.reduceBEq, Bool.true_beq, Bool.false_beq]
  refine call_one (S := rNumSpec) rfl _ GaL.rfl ⟨R, f, yrK n, rfl, hR, hn, fun b => ?_⟩
  generalize readOf f (yrK n) = x at hq ⊢
  simp -dsimp only [Vm.E, List.lookup, Nat.reduceAdd, Nat.reduceBEq, Int.reduceBNe, Int.reduceBEq, Bool.true_beq, Bool.false_beq]
  cases c1 : (x == 1)
  · have d1 : ¬ x = 1 := by simpa using c1
    simp -dsimp only [Vm.E, List.lookup, Nat.reduceAdd, Nat.reduceBEq, Int.reduceBNe, Int.reduceBEq, Bool.true_beq, Bool.false_beq]
    cases c2 : (x == 2)
    · have d2 : ¬ x = 2 := by simpa using c2
      rw [if_neg (by simp [d1, d2])] at hq
      simp -dsimp only [Vm.E, List.lookup, Nat.reduceAdd, Nat.reduceBEq, Int.reduceBNe, Int.reduceBEq, Bool.true_beq, Bool.false_beq, Tryz.results45]
      exact hq
    · have d2 : x = 2 := by simpa using c2
      rw [if_pos (.inr d2)] at hq
      simp -dsimp only [Vm.E, List.lookup, Nat.reduceAdd, Nat.reduceBEq, Int.reduceBNe, Int.reduceBEq, Bool.true_beq, Bool.false_beq, Tryz.results45]
      exact hq
  · have d1 : x = 1 := by simpa using c1
    rw [if_pos (.inl d1)] at hq
    simp -dsimp only [Vm.E, List.lookup, Nat.reduceAdd, Nat.reduceBEq, Int.reduceBNe, Int.reduceBEq, Bool.true_beq, Bool.false_beq, Tryz.results45]
    exact hq
def ySetSpec : Vm.Spec := fun args h Q => ∃ (R : RId) (f : Fun) (n st : Int), args = [.ptr R.iv 0, .v (.int .i64 n), .v (.int .i64 st)] ∧ I64 st ∧ isRef h R f ∧ f.n ≤ 536870912 ∧ ∀ h', isRef h' R (yrTurn f n st) → Same h h' (rFoot R) → Q (.v (.int .i64 0)) h'
theorem does_ySet : Does Tryz.prog 126 ySetSpec := by
  refine does_of_awp (good_cons does_rKey (good_cons does_rPack (good_cons does_rPut good_nil))) Tryz.func126 rfl (by decide +kernel) (by decide +kernel) ?_
  rintro args h Q ⟨R, f, n, st, rfl, hst, hR, hn, hq⟩
  refine ⟨by simp [Tryz.f126], ?_⟩
  rw [awpFunc_some (by rfl)]
  simp -dsimp only [Vm.E, List.lookup, Nat.reduceAdd, Nat.reduceBEq, Int.reduceBNe, Int.reduceBEq, Bool.true_beq, Bool.false_beq, es41]
  refine bs_intro zr3 (by decide) (by decide) rfl rfl (by simp [solid, AV.cells]) ?_
  simp -dsimp only [Vm.E, List.lookup, Nat.reduceAdd, Nat.reduceBEq, Int.reduceBNe, Int.reduceBEq, Bool.true_beq, Bool.false_beq]
  refine call_one (S := keySpec) rfl _ GaL.rfl ⟨89, [n], by simp, rfl, ?_⟩
  simp -dsimp only [Vm.E, List.lookup, Nat.reduceAdd, Nat.reduceBEq, Int.reduceBNe, Int.reduceBEq, Bool.true_beq, Bool.false_beq, es41]
  refine bs_intro zr3 (by decide) (by decide) rfl rfl (by simp [solid, AV.cells]) ?_
  simp -dsimp only [Vm.E, List.lookup, Nat.reduceAdd, Nat.reduceBEq, Int.reduceBNe, Int.reduceBEq, Bool.true_beq, Bool.false_beq]
  refine call_one (S := packSpec) rfl _ GaL.rfl ⟨[st], by simp, by simpa using hst, rfl, ?_⟩
  simp only [packOf_one]
  simp -dsimp only [Vm.E, List.lookup, Nat.reduceAdd, Nat.reduceBEq, Int.reduceBNe, Int.reduceBEq, Bool.true_beq, Bool.false_beq]
  refine call_one (S := rPutSpec) rfl _ GaL.rfl ⟨R, f, yrK n, be 8 st, rfl, hR, hn, fun _ h' g1 g2 => ?_, fun hc => by rw [right_yr] at hc; cases hc⟩
  simp -dsimp only [Vm.E, List.lookup, Nat.reduceAdd, Nat.reduceBEq, Int.reduceBNe, Int.reduceBEq, Bool.true_beq, Bool.false_beq, Tryz.results126]
  exact hq h' g1 g2
theorem does_rYRight : Does Tryz.prog 49 yrRightSpec := by
  refine does_of_awp good_nil Tryz.func49 rfl (by decide +kernel) (by decide +kernel) ?_
  rintro args h Q ⟨n, rfl, hq⟩
  refine ⟨by simp [Tryz.f49], ?_⟩
  rw [awpFunc_some (by rfl)]
  unfold rightY at hq
  simp -dsimp only [Vm.E, List.lookup, Nat.reduceAdd, Nat.reduceBEq, Int.reduceBNe, Int.reduceBEq, Bool.true_beq, Bool.false_beq]
  have e : decide (n ≥ 2000) = decide (2000 ≤ n) := rfl
  cases c1 : decide (2000 ≤ n)
  · rw [c1] at hq
    simp -dsimp only [Vm.E, List.lookup, Nat.reduceAdd, Nat.reduceBEq, Int.reduceBNe, Int.reduceBEq, Bool.true_beq, Bool.false_beq, e, c1, Tryz.results49]
    exact hq
  · rw [c1] at hq
    simp -dsimp only [Vm.E, List.lookup, Nat.reduceAdd, Nat.reduceBEq, Int.reduceBNe, Int.reduceBEq, Bool.true_beq, Bool.false_beq, e, c1, Tryz.results49]
    exact hq
def rOpenSpec : Vm.Spec := fun args h Q => ∃ (R : RId) (f : Fun) (n : Int), args = [.ptr R.iv 0, .v (.int .i64 n)] ∧ isRef h R f ∧ f.n ≤ 536870912 ∧ ∀ h', isRef h' R (openOf f n).1 → Same h h' (rFoot R) → Q (.v (.int .i64 (openOf f n).2)) h'
theorem does_rOpen : Does Tryz.prog 43 rOpenSpec := by
  refine does_of_awp (good_cons does_rYRight (good_cons does_rState (good_cons does_ySet good_nil))) Tryz.func43 rfl (by decide +kernel) (by decide +kernel) ?_
  rintro args h Q ⟨R, f, n, rfl, hR, hn, hq⟩
  refine ⟨by simp [Tryz.f43], ?_⟩
  rw [awpFunc_some (by rfl)]
  unfold openOf at hq
  simp -dsimp only [Vm.E, List.lookup, Nat.reduceAdd, Nat.reduceBEq, Int.reduceBNe, Int.reduceBEq, Bool.true_beq, Bool.false_beq]
  refine call_one (S := yrRightSpec) rfl _ GaL.rfl ⟨n, rfl, ?_⟩
  cases c1 : rightY n
  · rw [c1] at hq
    simp -dsimp only [Vm.E, List.lookup, Nat.reduceAdd, Nat.reduceBEq, Int.reduceBNe, Int.reduceBEq, Bool.true_beq, Bool.false_beq, Tryz.results43]
    exact hq h hR (.refl _ _)
  · rw [c1] at hq
    simp -dsimp only [Vm.E, List.lookup, Nat.reduceAdd, Nat.reduceBEq, Int.reduceBNe, Int.reduceBEq, Bool.true_beq, Bool.false_beq]
    refine call_one (S := rStateSpec) rfl _ GaL.rfl ⟨R, f, n, rfl, hR, hn, ?_⟩
    simp -dsimp only [Vm.E, List.lookup, Nat.reduceAdd, Nat.reduceBEq, Int.reduceBNe, Int.reduceBEq, Bool.true_beq, Bool.false_beq]
    cases c2 : (stateOf f n != 0)
    · have d2 : stateOf f n = 0 := by simpa using c2
      rw [if_pos rfl, if_pos d2] at hq
      simp -dsimp only [Vm.E, List.lookup, Nat.reduceAdd, Nat.reduceBEq, Int.reduceBNe, Int.reduceBEq, Bool.true_beq, Bool.false_beq]
      refine call_one (S := ySetSpec) rfl _ GaL.rfl ⟨R, f, n, 1, rfl, by unfold I64; omega, hR, hn, fun h' g1 g2 => ?_⟩
      simp -dsimp only [Vm.E, List.lookup, Nat.reduceAdd, Nat.reduceBEq, Int.reduceBNe, Int.reduceBEq, Bool.true_beq, Bool.false_beq, Tryz.results43]
      exact hq h' g1 g2
    · have d2 : ¬ stateOf f n = 0 := by simpa using c2
      rw [if_pos rfl, if_neg d2] at hq
      simp -dsimp only [Vm.E, List.lookup, Nat.reduceAdd, Nat.reduceBEq, Int.reduceBNe, Int.reduceBEq, Bool.true_beq, Bool.false_beq, Tryz.results43]
      exact hq h hR (.refl _ _)
def rCheckSpec : Vm.Spec := fun args h Q => ∃ (R : RId) (f : Fun) (n : Int), args = [.ptr R.iv 0, .v (.int .i64 n)] ∧ isRef h R f ∧ f.n ≤ 536870912 ∧ Q (.v (.int .i64 (checkY f n))) h
theorem does_rCheck : Does Tryz.prog 47 rCheckSpec := by
  refine does_of_awp (good_cons does_rState good_nil) Tryz.func47 rfl (by decide +kernel) (by decide +kernel) ?_
  rintro args h Q ⟨R, f, n, rfl, hR, hn, hq⟩
  refine ⟨by simp [Tryz.f47], ?_⟩
  rw [awpFunc_some (by rfl)]
  unfold checkY at hq
  simp -dsimp only [Vm.E, List.lookup, Nat.reduceAdd, Nat.reduceBEq, Int.reduceBNe, Int.reduceBEq, Bool.true_beq, Bool.false_beq]
  refine call_one (S := rStateSpec) rfl _ GaL.rfl ⟨R, f, n, rfl, hR, hn, ?_⟩
  rcases stateOf_cases f n with e | e | e <;> rw [e] at hq ⊢ <;> simp -dsimp only [Vm.E, List.lookup, Nat.reduceAdd, Nat.reduceBEq, Int.reduceBNe, Int.reduceBEq, Bool.true_beq, Bool.false_beq, Tryz.results47] <;> exact hq
def rShutSpec : Vm.Spec := fun args h Q => ∃ (R : RId) (f : Fun) (n : Int), args = [.ptr R.iv 0, .v (.int .i64 n)] ∧ isRef h R f ∧ f.n ≤ 536870912 ∧ ∀ h', isRef h' R (shutOf f n).1 → Same h h' (rFoot R) → Q (.v (.int .i64 (shutOf f n).2)) h'
theorem does_rShut : Does Tryz.prog 44 rShutSpec := by
  refine does_of_awp (good_cons does_rCheck (good_cons does_ySet good_nil)) Tryz.func44 rfl (by decide +kernel) (by decide +kernel) ?_
  rintro args h Q ⟨R, f, n, rfl, hR, hn, hq⟩
  refine ⟨by simp [Tryz.f44], ?_⟩
  rw [awpFunc_some (by rfl)]
  unfold shutOf at hq
  simp -dsimp only [Vm.E, List.lookup, Nat.reduceAdd, Nat.reduceBEq, Int.reduceBNe, Int.reduceBEq, Bool.true_beq, Bool.false_beq]
  refine call_one (S := rCheckSpec) rfl _ GaL.rfl ⟨R, f, n, rfl, hR, hn, ?_⟩
  simp -dsimp only [Vm.E, List.lookup, Nat.reduceAdd, Nat.reduceBEq, Int.reduceBNe, Int.reduceBEq, Bool.true_beq, Bool.false_beq]
  cases c1 : (checkY f n != 0)
  · have d1 : checkY f n = 0 := by simpa using c1
    rw [if_pos d1] at hq
    simp -dsimp only [Vm.E, List.lookup, Nat.reduceAdd, Nat.reduceBEq, Int.reduceBNe, Int.reduceBEq, Bool.true_beq, Bool.false_beq]
    refine call_one (S := ySetSpec) rfl _ GaL.rfl ⟨R, f, n, 2, rfl, by unfold I64; omega, hR, hn, fun h' g1 g2 => ?_⟩
    simp -dsimp only [Vm.E, List.lookup, Nat.reduceAdd, Nat.reduceBEq, Int.reduceBNe, Int.reduceBEq, Bool.true_beq, Bool.false_beq, Tryz.results44]
    exact hq h' g1 g2
  · have d1 : ¬ checkY f n = 0 := by simpa using c1
    rw [if_neg d1] at hq
    simp -dsimp only [Vm.E, List.lookup, Nat.reduceAdd, Nat.reduceBEq, Int.reduceBNe, Int.reduceBEq, Bool.true_beq, Bool.false_beq, Tryz.results44]
    exact hq h hR (.refl _ _)
end Go.Proofs.Lx
/- The reference's pairs that begin so; two views beside. -/
set_option linter.unusedSimpArgs false
set_option linter.unusedVariables false
namespace Go.Proofs.Lx
open Go.Vm
attribute [local irreducible] awpArr awpBin awpMake awpAppend awpCvX awpStrOf awpBinX awpSlice awpBS awpStore awpAlloc awpCopy awpIndex awpDraw awpIdxX awpFa awpField awpLookup awpUpdate awpDelete awpClear awpRange awpNext awpEntry awpBuild awpClearS awpIdxL awpTree appB
abbrev preL (pre : List UInt8) (l : List KV) : List KV := l.filter fun p => pre.isPrefixOf p.1
def tScanSpec : Vm.Spec := fun args h Q => ∃ (i : Nat) (l : List KV) (pre : List UInt8), args = [.ptr i 0, .sl 1 (pre.map encB)] ∧ h[i]? = some (tabObj l) ∧ l.length ≤ 1073741824 ∧ pre.length ≤ 1073741824 ∧ (∀ p ∈ l, p.1.length ≤ 32) ∧
  Q (.own true 47 2 ((preL pre l).map kvAv)) h
set_option maxRecDepth 20000 in
set_option maxHeartbeats 4000000 in
theorem does_tScan : Does Tryz.prog 165 tScanSpec := by
  refine does_of_awp good_nil Tryz.func165 rfl (by decide +kernel) (by decide +kernel) ?_
  rintro args h Q ⟨id, l, pre, rfl, hh, hl, hpl, hk32, hq⟩
  unfold tabObj at hh
  refine ⟨by simp [Tryz.f165], ?_⟩
  rw [awpFunc_some (by rfl)]
  simp -dsimp only [Vm.E, List.lookup, Nat.reduceAdd, Nat.reduceBEq, Int.reduceBNe, Int.reduceBEq, Bool.true_beq, Bool.false_beq]
  refine awp_loop (fun m s h' => ∃ i : Nat, i + m = l.length ∧ h' = h ∧ s = mk [(0, .ptr id 0), (1, .sl 1 (pre.map encB)), (5, .own true 47 2 ((preL pre (l.take i)).map kvAv)), (6, .v (.int .i64 i))])
    l.length _ (le_mk _ ?_) ⟨0, by omega, rfl, rfl⟩ ?_
  · simp only [List.forall_mem_cons, List.not_mem_nil, false_imp_iff, implies_true, and_true]
    simp -dsimp only [Vm.E, List.lookup, Nat.reduceAdd, Nat.reduceBEq, Int.reduceBNe, Int.reduceBEq, Bool.true_beq, Bool.false_beq]
    exact ⟨.refl _, .refl _, .nil _ _ _ (by decide), .refl _⟩
  · rintro m s h' ⟨i, hi, rfl, rfl⟩
    simp -dsimp only [Vm.E, List.lookup, Nat.reduceAdd, Nat.reduceBEq, Int.reduceBNe, Int.reduceBEq, Bool.true_beq, Bool.false_beq, fo129_0, hh, of40, Tryz.underlying40]
    refine cond_intro (fun hcc => ?_) (fun hcc => ?_)
    · have hlt : i < l.length := by have := of_decide_eq_true hcc; omega
      have hw : IntKind.i64.wrap ((i : Int) + 1) = ((i + 1 : Nat) : Int) := by rw [wrap_i64 (by omega) (by omega)]; simp
      obtain ⟨p, hp⟩ : ∃ p, l[i] = p := ⟨_, rfl⟩
      have hkp := hk32 p (hp ▸ List.getElem_mem hlt)
      have hpre : (preL pre (l.take i)).length ≤ i := Nat.le_trans (List.length_filter_le ..) (by rw [List.length_take]; omega)
      have est : preL pre (l.take (i + 1)) = preL pre (l.take i) ++ if pre.isPrefixOf p.1 then [p] else [] := by
        rw [List.take_succ_eq_append_getElem hlt, preL, List.filter_append, hp, List.filter_cons, List.filter_nil]
      simp -dsimp only [Vm.E, List.lookup, Nat.reduceAdd, Nat.reduceBEq, Int.reduceBNe, Int.reduceBEq, Bool.true_beq, Bool.false_beq, fo129_0, hh, of40, es40, as40]
      refine idx_map kvAv l i hlt ?_
      simp only [hp, kvAv]
      simp -dsimp only [Vm.E, List.lookup, Nat.reduceAdd, Nat.reduceBEq, Int.reduceBNe, Int.reduceBEq, Bool.true_beq, Bool.false_beq, Vm.S, Nat.reduceLeDiff, AV.cells, fo47_0, of45]
      have e1 : (p.1.map encB).take (pre.length : Int).toNat = (p.1.take pre.length).map encB := by rw [Int.toNat_natCast, List.map_take]
      refine draw_cont [] (.take 0 (.take 1 (.take 2 (.take 3 (.take 4 (.take 5 (.take 6 (.take 7 (.take 8 (.take 9 (.take 11 (.alt 10 (.alt 12 (.take 13 (.take 14 (.done))) .stop) (.alt 12 (.alt 10 (.take 13 (.take 14 (.done))) .stop) (.stop)))))))))))))) (fun s hx => hx = h' ∧ s 39 = .v (.bool (pre.isPrefixOf p.1)) ∧ s 0 = .ptr id 0 ∧ s 1 = .sl 1 (pre.map encB) ∧ s 5 = .own true 47 2 ((preL pre (l.take i)).map kvAv) ∧ s 6 = .v (.int .i64 i)) (by kernel_rfl) (by kernel_rfl) (by kernel_rfl) (by decide) ?_ ?_
      · by_cases hle : pre.length ≤ p.1.length
        · have c1 : decide ((p.1.length : Int) ≥ pre.length) = true := decide_eq_true (by omega)
          simp only [← isPrefixOf_take p.1 pre hle]
          repeat' first
            | with_reducible exact True.intro
            | simp -dsimp only [Vm.E, List.lookup, Nat.reduceAdd, Nat.reduceBEq, Int.reduceBNe, Int.reduceBEq, Bool.true_beq, Bool.false_beq, c1, e1, Tryz.underlying45, cs45, str_eql, toList_mk]
            | refine strOf_sl bt45 pre rfl ?_
            | refine strOf_sl bt45 (p.1.take pre.length) rfl ?_
            | refine slice_h es45 (by omega) (by rw [List.length_map]; omega) ?_
            | refine tree_alt ?_ ?_
        · have c1 : decide ((p.1.length : Int) ≥ pre.length) = false := decide_eq_false (by omega)
          simp only [isPrefixOf_long p.1 pre hle]
          repeat' first
            | with_reducible exact True.intro
            | simp -dsimp only [Vm.E, List.lookup, Nat.reduceAdd, Nat.reduceBEq, Int.reduceBNe, Int.reduceBEq, Bool.true_beq, Bool.false_beq, c1, Tryz.underlying45]
            | refine tree_alt ?_ ?_
      · rintro s hx ⟨rfl, e39, e0, e1, e5, e6⟩
        cases hb : pre.isPrefixOf p.1
        · rw [hb] at e39 est
          simp only [Bool.false_eq_true, if_false, List.append_nil] at est
          simp -dsimp only [Vm.E, List.lookup, Nat.reduceAdd, Nat.reduceBEq, Int.reduceBNe, Int.reduceBEq, Bool.true_beq, Bool.false_beq, e39, e0, e1, e5, e6]
          refine kept_intro ⟨l.length - (i + 1), by omega, _, le_mk [(0, .ptr id 0), (1, .sl 1 (pre.map encB)), (5, .own true 47 2 ((preL pre (l.take (i + 1))).map kvAv)), (6, .v (.int .i64 (i + 1 : Nat)))] ?_, i + 1, by omega, rfl, rfl⟩
          simp only [List.forall_mem_cons, List.not_mem_nil, false_imp_iff, implies_true, and_true, est]
          simp -dsimp only [Vm.E, List.lookup, Nat.reduceAdd, Nat.reduceBEq, Int.reduceBNe, Int.reduceBEq, Bool.true_beq, Bool.false_beq, e39, e0, e1, e5, e6, hw]
          exact ⟨.refl _, .refl _, .refl _, .refl _⟩
        · rw [hb] at e39 est
          simp only [if_true] at est
          simp -dsimp only [Vm.E, List.lookup, Nat.reduceAdd, Nat.reduceBEq, Int.reduceBNe, Int.reduceBEq, Bool.true_beq, Bool.false_beq, e39, e0, e1, e5, e6, fo129_0, hh, of40, es40, as40]
          refine idx_map kvAv l i hlt ?_
          simp only [hp, kvAv]
          simp -dsimp only [Vm.E, List.lookup, Nat.reduceAdd, Nat.reduceBEq, Int.reduceBNe, Int.reduceBEq, Bool.true_beq, Bool.false_beq, e39, e0, e1, e5, e6, Vm.S, Nat.reduceLeDiff, AV.cells, of47, es40]
          refine bs_intro zr47 (by decide) (by decide) rfl rfl (by simp [solid, AV.cells]) ?_
          simp -dsimp only [Vm.E, List.lookup, Nat.reduceAdd, Nat.reduceBEq, Int.reduceBNe, Int.reduceBEq, Bool.true_beq, Bool.false_beq, e39, e0, e1, e5, e6, append_own ei40]
          refine app_sl Tryz.underlying40 (by simp [AV.cells]) (by simp only [List.length_map, List.length_cons, List.length_nil]; omega) ?_
          simp -dsimp only [Vm.E, List.lookup, Nat.reduceAdd, Nat.reduceBEq, Int.reduceBNe, Int.reduceBEq, Bool.true_beq, Bool.false_beq, e39, e0, e1, e5, e6]
          refine kept_intro ⟨l.length - (i + 1), by omega, _, le_mk [(0, .ptr id 0), (1, .sl 1 (pre.map encB)), (5, .own true 47 2 ((preL pre (l.take (i + 1))).map kvAv)), (6, .v (.int .i64 (i + 1 : Nat)))] ?_, i + 1, by omega, rfl, rfl⟩
          simp only [List.forall_mem_cons, List.not_mem_nil, false_imp_iff, implies_true, and_true, est, List.map_append, List.map_cons, List.map_nil, kvAv]
          simp -dsimp only [Vm.E, List.lookup, Nat.reduceAdd, Nat.reduceBEq, Int.reduceBNe, Int.reduceBEq, Bool.true_beq, Bool.false_beq, e39, e0, e1, e5, e6, hw]
          exact ⟨.refl _, .refl _, .refl _, .refl _⟩
    · have hge : ¬ i < l.length := by have := of_decide_eq_false hcc; omega
      simp -dsimp only [Vm.E, List.lookup, Nat.reduceAdd, Nat.reduceBEq, Int.reduceBNe, Int.reduceBEq, Bool.true_beq, Bool.false_beq, Tryz.results165]
      rw [List.take_of_length_le (by omega)]
      exact hq
def rScanSpec : Vm.Spec := fun args h Q => ∃ (R : RId) (f : Fun) (pre : List UInt8), args = [.ptr R.iv 0, .sl 1 (pre.map encB)] ∧ pre.length ≤ 1073741824 ∧ isRef h R f ∧ f.n ≤ 536870912 ∧
  ∀ l, ScanIs f pre l → l.length ≤ f.n → Q (.own true 47 2 (l.map kvAv)) h
theorem does_rScan : Does Tryz.prog 99 rScanSpec := by
  refine does_of_awp (good_cons does_tScan good_nil) Tryz.func99 rfl (by decide +kernel) (by decide +kernel) ?_
  rintro args h Q ⟨R, f, pre, rfl, hpl, hR, hn, hq⟩
  refine ⟨by simp [Tryz.f99], ?_⟩
  rw [awpFunc_some (by rfl)]
  obtain ⟨lw, ln, lt, h1, h2, h3, h4, h5, h6, h7, h8⟩ := hR
  simp -dsimp only [Vm.E, List.lookup, Nat.reduceAdd, Nat.reduceBEq, Int.reduceBNe, Int.reduceBEq, Bool.true_beq, Bool.false_beq, Vm.S, Nat.reduceLeDiff, fo131_1, h1, of127]
  refine call_one (S := tScanSpec) rfl _ GaL.rfl ⟨R.inn, ln, pre, rfl, h3, by omega, hpl, fun p hp => (h8 p hp).1, ?_⟩
  simp -dsimp only [Vm.E, List.lookup, Nat.reduceAdd, Nat.reduceBEq, Int.reduceBNe, Int.reduceBEq, Bool.true_beq, Bool.false_beq, Tryz.results99]
  exact hq _ (h6.scan pre) (Nat.le_trans (List.length_filter_le ..) h7.1)
def Both (h : Heap) (V : VId) (R : RId) (f : Fun) : Prop := isView h V f ∧ isRef h R f ∧ (∀ i ∈ [V.iv, V.ic, V.im], i ∉ [R.iv, R.iw, R.inn, R.it])
theorem get_lt {h : Heap} {i : Nat} {o : AObj} (hx : h[i]? = some o) : i < h.length := by
  rcases Nat.lt_or_ge i h.length with h' | h'
  · exact h'
  · rw [List.getElem?_eq_none h'] at hx; cases hx
theorem Same.get {h h' : Heap} {fp : List Nat} (hs : Same h h' fp) {i : Nat} {o : AObj} (hx : h[i]? = some o) (hi : i ∉ fp) : h'[i]? = some o := by rw [hs.2 i (get_lt hx) hi]; exact hx
theorem isView.same {h h' : Heap} {V : VId} {f : Fun} {fp : List Nat} (hV : isView h V f) (hs : Same h h' fp) (hd : ∀ i ∈ [V.iv, V.ic, V.im], i ∉ fp) : isView h' V f := by
  obtain ⟨chg, clk, mem, clk2, h1, h2, h3, h4⟩ := hV
  exact ⟨chg, clk, mem, clk2, hs.get h1 (hd _ (by simp)), hs.get h2 (hd _ (by simp)), hs.get h3 (hd _ (by simp)), h4⟩
theorem isRef.same {h h' : Heap} {R : RId} {f : Fun} {fp : List Nat} (hR : isRef h R f) (hs : Same h h' fp) (hd : ∀ i ∈ [R.iv, R.iw, R.inn, R.it], i ∉ fp) : isRef h' R f := by
  obtain ⟨lw, ln, lt, h1, h2, h3, h4, h5⟩ := hR
  exact ⟨lw, ln, lt, hs.get h1 (hd _ (by simp)), hs.get h2 (hd _ (by simp)), hs.get h3 (hd _ (by simp)), hs.get h4 (hd _ (by simp)), h5⟩
theorem Both.view {h h' : Heap} {V : VId} {R : RId} {f g : Fun} (hB : Both h V R f) (hV : isView h' V g) (hs : Same h h' [V.ic]) : isRef h' R f := by
  refine hB.2.1.same hs fun i hi hm => ?_
  rw [List.mem_singleton] at hm; subst hm
  exact hB.2.2 V.ic (by simp) hi
theorem Both.ref {h h' h2 : Heap} {V : VId} {R : RId} {f g : Fun} (hB : Both h V R f) (hV : isView h' V g) (hR : isRef h2 R g) (hs : Same h' h2 (rFoot R)) : Both h2 V R g := by
  refine ⟨hV.same hs fun i hi hm => ?_, hR, hB.2.2⟩
  refine hB.2.2 i hi ?_
  simp [rFoot] at hm ⊢
  rcases hm with rfl | rfl <;> simp
theorem Both.quiet {h h' : Heap} {V : VId} {R : RId} {f : Fun} (hB : Both h V R f) (hV : isView h' V f) (hs : Same h h' []) : Both h' V R f :=
  ⟨hV, hB.2.1.same hs (by simp), hB.2.2⟩
end Go.Proofs.Lx
/- exchequerplain: few pairs, the same pairs. -/
set_option linter.unusedSimpArgs false
set_option linter.unusedVariables false
namespace Go.Proofs.Lx
open Go.Vm
attribute [local irreducible] awpArr awpBin awpMake awpAppend awpCvX awpStrOf awpBinX awpSlice awpBS awpStore awpAlloc awpCopy awpIndex awpDraw awpIdxX awpFa awpField awpLookup awpUpdate awpDelete awpClear awpRange awpNext awpEntry awpBuild awpClearS awpIdxL
/-- A question of a pair. -/
def askKV (p : KV → Bool) : Vm.Spec := fun args h Q => ∃ x : KV, args = [kvAv x] ∧ Q (.v (.bool (p x))) h
def ixSSpec (T : Tab) : Vm.Spec := fun args h Q => ∃ (g : FuncId) (p : KV → Bool) (l : List KV), T g = some (askKV p) ∧ l.length ≤ 9223372036854775807 ∧ args = [.sl 2 (l.map kvAv), .clo g []] ∧ ∀ i : Int, (l.any p = true ↔ 0 ≤ i) → Q (.v (.int .i64 i)) h
theorem does_ixS {T : Tab} (hT : Good T) : Does Tryz.prog 155 (ixSSpec T) := by
  refine does_of_awp hT Tryz.func155 rfl (by decide +kernel) (by decide +kernel) ?_
  rintro args h Q ⟨g, p, l, hg, hl, rfl, hq⟩
  refine ⟨by simp [Tryz.f155], ?_⟩
  rw [awpFunc_some (by rfl)]
  simp -dsimp only [Vm.E, List.lookup, Nat.reduceAdd, Nat.reduceBEq, Int.reduceBNe, Int.reduceBEq, Bool.true_beq, Bool.false_beq, Tryz.underlying40]
  refine awp_loop (fun m s h' => ∃ i : Nat, i + m = l.length ∧ h' = h ∧ (∀ j (hj : j < l.length), j < i → p l[j] = false) ∧ s = mk [(0, .sl 2 (l.map kvAv)), (1, .clo g []), (7, .v (.int .i64 l.length)), (8, .v (.int .i64 i))])
    l.length _ (le_mk _ ?_) ⟨0, by omega, rfl, fun j _ hj => by omega, rfl⟩ ?_
  · simp only [List.forall_mem_cons, List.not_mem_nil, false_imp_iff, implies_true, and_true]
    simp -dsimp only [Vm.E, List.lookup, Nat.reduceAdd, Nat.reduceBEq, Int.reduceBNe, Int.reduceBEq, Bool.true_beq, Bool.false_beq]
    exact ⟨.refl _, .refl _, .refl _, .refl _⟩
  · rintro m s h' ⟨i, hi, rfl, hb, rfl⟩
    simp -dsimp only [Vm.E, List.lookup, Nat.reduceAdd, Nat.reduceBEq, Int.reduceBNe, Int.reduceBEq, Bool.true_beq, Bool.false_beq]
    refine cond_intro (fun hcc => ?_) (fun hcc => ?_)
    · have hlt : i < l.length := by have := of_decide_eq_true hcc; omega
      obtain ⟨x, hx⟩ : ∃ x, l[i] = x := ⟨_, rfl⟩
      have hw : IntKind.i64.wrap ((i : Int) + 1) = ((i + 1 : Nat) : Int) := by rw [wrap_i64 (by omega) (by omega)]; simp
      simp -dsimp only [Vm.E, List.lookup, Nat.reduceAdd, Nat.reduceBEq, Int.reduceBNe, Int.reduceBEq, Bool.true_beq, Bool.false_beq, es40, as40]
      refine idx_map kvAv l i hlt ?_
      simp only [hx, kvAv]
      simp -dsimp only [Vm.E, List.lookup, Nat.reduceAdd, Nat.reduceBEq, Int.reduceBNe, Int.reduceBEq, Bool.true_beq, Bool.false_beq, Vm.S, Nat.reduceLeDiff, q155, AV.cells]
      refine call_one (S := askKV p) hg _ GaL.rfl ⟨x, rfl, ?_⟩
      cases hp : p x
      · simp -dsimp only [Vm.E, List.lookup, Nat.reduceAdd, Nat.reduceBEq, Int.reduceBNe, Int.reduceBEq, Bool.true_beq, Bool.false_beq, hw]
        refine kept_intro ⟨l.length - (i + 1), by omega, _, le_mk [(0, .sl 2 (l.map kvAv)), (1, .clo g []), (7, .v (.int .i64 l.length)), (8, .v (.int .i64 (i + 1 : Nat)))] ?_, i + 1, by omega, rfl, fun j hj hj2 => ?_, rfl⟩
        · simp only [List.forall_mem_cons, List.not_mem_nil, false_imp_iff, implies_true, and_true]
          simp -dsimp only [Vm.E, List.lookup, Nat.reduceAdd, Nat.reduceBEq, Int.reduceBNe, Int.reduceBEq, Bool.true_beq, Bool.false_beq]
          exact ⟨.refl _, .refl _, .refl _, .refl _⟩
        · by_cases hji : j = i
          · subst hji; rw [hx]; exact hp
          · exact hb j hj (by omega)
      · simp -dsimp only [Vm.E, List.lookup, Nat.reduceAdd, Nat.reduceBEq, Int.reduceBNe, Int.reduceBEq, Bool.true_beq, Bool.false_beq, Tryz.results155]
        exact hq _ ⟨fun _ => by omega, fun _ => List.any_eq_true.2 ⟨x, hx ▸ List.getElem_mem hlt, hp⟩⟩
    · have hge : ¬ i < l.length := by have := of_decide_eq_false hcc; omega
      simp -dsimp only [Vm.E, List.lookup, Nat.reduceAdd, Nat.reduceBEq, Int.reduceBNe, Int.reduceBEq, Bool.true_beq, Bool.false_beq, Tryz.results155]
      refine hq _ ⟨fun hm => ?_, fun h0 => by omega⟩
      obtain ⟨x, hx, hp⟩ := List.any_eq_true.1 hm
      obtain ⟨j, hj, rfl⟩ := List.getElem_of_mem hx
      rw [hb j hj (by omega)] at hp; cases hp
def hasSSpec (T : Tab) : Vm.Spec := fun args h Q => ∃ (g : FuncId) (p : KV → Bool) (l : List KV), T g = some (askKV p) ∧ l.length ≤ 9223372036854775807 ∧ args = [.sl 2 (l.map kvAv), .clo g []] ∧ Q (.v (.bool (l.any p))) h
theorem does_hasS {T : Tab} (hT : Good T) : Does Tryz.prog 87 (hasSSpec T) := by
  refine does_of_awp (good_cons (does_ixS hT) good_nil) Tryz.func87 rfl (by decide +kernel) (by decide +kernel) ?_
  rintro args h Q ⟨g, p, l, hg, hl, rfl, hq⟩
  refine ⟨by simp [Tryz.f87], ?_⟩
  rw [awpFunc_some (by rfl)]
  simp -dsimp only [Vm.E, List.lookup, Nat.reduceAdd, Nat.reduceBEq, Int.reduceBNe, Int.reduceBEq, Bool.true_beq, Bool.false_beq]
  refine call_one (S := ixSSpec T) rfl _ GaL.rfl ⟨g, p, l, hg, hl, rfl, fun i hi => ?_⟩
  have e : decide (i ≥ 0) = l.any p := by
    cases hx : l.any p
    · rw [hx] at hi; exact decide_eq_false fun h0 => by have := hi.2 h0; cases this
    · exact decide_eq_true (hi.1 hx)
  simp -dsimp only [Vm.E, List.lookup, Nat.reduceAdd, Nat.reduceBEq, Int.reduceBNe, Int.reduceBEq, Bool.true_beq, Bool.false_beq, Tryz.results87, e]
  exact hq
def longKV (p : KV) : Bool := decide (200 < p.1.length) || decide (400 < p.2.length)
theorem does_few1 : Does Tryz.prog 88 (askKV longKV) := by
  refine does_of_awp good_nil Tryz.func88 rfl (by decide +kernel) (by decide +kernel) ?_
  rintro args h Q ⟨⟨k, v⟩, rfl, hq⟩
  refine ⟨by simp [Tryz.f88], ?_⟩
  rw [awpFunc_some (by rfl)]
  simp only [kvAv]
  unfold longKV at hq
  simp -dsimp only [Vm.E, List.lookup, Nat.reduceAdd, Nat.reduceBEq, Int.reduceBNe, Int.reduceBEq, Bool.true_beq, Bool.false_beq, Vm.S, Nat.reduceLeDiff, fo47_0, of45, Tryz.underlying45]
  by_cases d1 : 200 < k.length
  · have c1 : decide ((k.length : Int) > 200) = true := decide_eq_true (by omega)
    simp -dsimp only [Vm.E, List.lookup, Nat.reduceAdd, Nat.reduceBEq, Int.reduceBNe, Int.reduceBEq, Bool.true_beq, Bool.false_beq, Vm.S, Nat.reduceLeDiff, c1, Tryz.results88]
    simpa [d1] using hq
  · have c1 : decide ((k.length : Int) > 200) = false := decide_eq_false (by omega)
    by_cases d2 : 400 < v.length
    · have c2 : decide ((v.length : Int) > 400) = true := decide_eq_true (by omega)
      simp -dsimp only [Vm.E, List.lookup, Nat.reduceAdd, Nat.reduceBEq, Int.reduceBNe, Int.reduceBEq, Bool.true_beq, Bool.false_beq, Vm.S, Nat.reduceLeDiff, c1, c2, fo47_1, of45, Tryz.underlying45, Tryz.results88]
      simpa [d1, d2] using hq
    · have c2 : decide ((v.length : Int) > 400) = false := decide_eq_false (by omega)
      simp -dsimp only [Vm.E, List.lookup, Nat.reduceAdd, Nat.reduceBEq, Int.reduceBNe, Int.reduceBEq, Bool.true_beq, Bool.false_beq, Vm.S, Nat.reduceLeDiff, c1, c2, fo47_1, of45, Tryz.underlying45, Tryz.results88]
      simpa [d1, d2] using hq
def fewT : Tab := tab [(88, askKV longKV)]
theorem good_fewT : Good fewT := good_cons does_few1 good_nil
def fewOf (l : List KV) (many : Int) : Bool := decide ((l.length : Int) ≤ many) && !(l.any longKV)
def fewSpec : Vm.Spec := fun args h Q => ∃ (l : List KV) (many : Int), l.length ≤ 9223372036854775807 ∧ args = [.sl 2 (l.map kvAv), .v (.int .i64 many)] ∧ Q (.v (.bool (fewOf l many))) h
theorem does_few : Does Tryz.prog 17 fewSpec := by
  refine does_of_awp (good_cons (does_hasS good_fewT) good_nil) Tryz.func17 rfl (by decide +kernel) (by decide +kernel) ?_
  rintro args h Q ⟨l, many, hl, rfl, hq⟩
  refine ⟨by simp [Tryz.f17], ?_⟩
  rw [awpFunc_some (by rfl)]
  unfold fewOf at hq
  simp -dsimp only [Vm.E, List.lookup, Nat.reduceAdd, Nat.reduceBEq, Int.reduceBNe, Int.reduceBEq, Bool.true_beq, Bool.false_beq, Tryz.underlying40]
  cases c1 : decide ((l.length : Int) ≤ many)
  · rw [c1] at hq
    simp -dsimp only [Vm.E, List.lookup, Nat.reduceAdd, Nat.reduceBEq, Int.reduceBNe, Int.reduceBEq, Bool.true_beq, Bool.false_beq, Tryz.results17]
    exact hq
  · rw [c1] at hq
    simp -dsimp only [Vm.E, List.lookup, Nat.reduceAdd, Nat.reduceBEq, Int.reduceBNe, Int.reduceBEq, Bool.true_beq, Bool.false_beq]
    refine call_one (S := hasSSpec fewT) rfl _ GaL.rfl ⟨88, longKV, l, rfl, hl, rfl, ?_⟩
    simp -dsimp only [Vm.E, List.lookup, Nat.reduceAdd, Nat.reduceBEq, Int.reduceBNe, Int.reduceBEq, Bool.true_beq, Bool.false_beq, Tryz.results17]
    exact hq
def eqKVSpec : Vm.Spec := fun args h Q => ∃ x y : KV, args = [kvAv x, kvAv y] ∧ Q (.v (.bool (x.1 == y.1 && x.2 == y.2))) h
theorem does_eqKV : Does Tryz.prog 163 eqKVSpec := by
  refine does_of_awp (good_cons does_equal good_nil) Tryz.func163 rfl (by decide +kernel) (by decide +kernel) ?_
  rintro args h Q ⟨⟨k, v⟩, ⟨k2, v2⟩, rfl, hq⟩
  refine ⟨by simp [Tryz.f163], ?_⟩
  rw [awpFunc_some (by rfl)]
  simp only [kvAv]
  simp -dsimp only [Vm.E, List.lookup, Nat.reduceAdd, Nat.reduceBEq, Int.reduceBNe, Int.reduceBEq, Bool.true_beq, Bool.false_beq, Vm.S, Nat.reduceLeDiff, fo47_0, of45]
  refine call_one (S := equalSpec) rfl _ GaL.rfl ⟨k, k2, rfl, ?_⟩
  simp -dsimp only [Vm.E, List.lookup, Nat.reduceAdd, Nat.reduceBEq, Int.reduceBNe, Int.reduceBEq, Bool.true_beq, Bool.false_beq]
  cases c1 : (k == k2)
  · simp only [c1] at hq
    simp -dsimp only [Vm.E, List.lookup, Nat.reduceAdd, Nat.reduceBEq, Int.reduceBNe, Int.reduceBEq, Bool.true_beq, Bool.false_beq, Vm.S, Nat.reduceLeDiff, Tryz.results163]
    exact hq
  · simp only [c1] at hq
    simp -dsimp only [Vm.E, List.lookup, Nat.reduceAdd, Nat.reduceBEq, Int.reduceBNe, Int.reduceBEq, Bool.true_beq, Bool.false_beq, Vm.S, Nat.reduceLeDiff, fo47_1, of45]
    refine call_one (S := equalSpec) rfl _ GaL.rfl ⟨v, v2, rfl, ?_⟩
    simp -dsimp only [Vm.E, List.lookup, Nat.reduceAdd, Nat.reduceBEq, Int.reduceBNe, Int.reduceBEq, Bool.true_beq, Bool.false_beq, Tryz.results163]
    exact hq
def eqFSpec : Vm.Spec := fun args h Q => ∃ l l' : List KV, l.length ≤ 9223372036854775807 ∧ args = [.sl 2 (l.map kvAv), .sl 2 (l'.map kvAv), .clo 163 []] ∧ Q (.v (.bool (decide (l = l')))) h
set_option maxHeartbeats 1000000 in
theorem does_eqF : Does Tryz.prog 162 eqFSpec := by
  refine does_of_awp (good_cons does_eqKV good_nil) Tryz.func162 rfl (by decide +kernel) (by decide +kernel) ?_
  rintro args h Q ⟨l, l', hl, rfl, hq⟩
  refine ⟨by simp [Tryz.f162], ?_⟩
  rw [awpFunc_some (by rfl)]
  simp -dsimp only [Vm.E, List.lookup, Nat.reduceAdd, Nat.reduceBEq, Int.reduceBNe, Int.reduceBEq, Bool.true_beq, Bool.false_beq, Tryz.underlying40]
  by_cases hlen : l.length = l'.length
  · have c1 : ((l.length : Int) != l'.length) = false := by simp [hlen]
    simp -dsimp only [Vm.E, List.lookup, Nat.reduceAdd, Nat.reduceBEq, Int.reduceBNe, Int.reduceBEq, Bool.true_beq, Bool.false_beq, c1, Tryz.underlying40]
    refine awp_loop (fun m s h' => ∃ i : Nat, i + m = l.length ∧ h' = h ∧ (∀ j (hj : j < l.length), j < i → l[j] = l'[j]'(by omega)) ∧ s = mk [(1, .sl 2 (l'.map kvAv)), (2, .clo 163 []), (15, .sl 2 (l.map kvAv)), (16, .v (.int .i64 l.length)), (17, .v (.int .i64 i))])
      l.length _ (le_mk _ ?_) ⟨0, by omega, rfl, fun j _ hj => by omega, rfl⟩ ?_
    · simp only [List.forall_mem_cons, List.not_mem_nil, false_imp_iff, implies_true, and_true]
      simp -dsimp only [Vm.E, List.lookup, Nat.reduceAdd, Nat.reduceBEq, Int.reduceBNe, Int.reduceBEq, Bool.true_beq, Bool.false_beq]
      exact ⟨.refl _, .refl _, .refl _, .refl _, .refl _⟩
    · rintro m s h' ⟨i, hi, rfl, hb, rfl⟩
      simp -dsimp only [Vm.E, List.lookup, Nat.reduceAdd, Nat.reduceBEq, Int.reduceBNe, Int.reduceBEq, Bool.true_beq, Bool.false_beq]
      refine cond_intro (fun hcc => ?_) (fun hcc => ?_)
      · have hlt : i < l.length := by have := of_decide_eq_true hcc; omega
        have hlt' : i < l'.length := by omega
        obtain ⟨x, hx⟩ : ∃ x, l[i] = x := ⟨_, rfl⟩
        obtain ⟨y, hy⟩ : ∃ y, l'[i] = y := ⟨_, rfl⟩
        have hw : IntKind.i64.wrap ((i : Int) + 1) = ((i + 1 : Nat) : Int) := by rw [wrap_i64 (by omega) (by omega)]; simp
        simp -dsimp only [Vm.E, List.lookup, Nat.reduceAdd, Nat.reduceBEq, Int.reduceBNe, Int.reduceBEq, Bool.true_beq, Bool.false_beq, es40, as40]
        refine idx_map kvAv l i hlt ?_
        simp only [hx, kvAv]
        simp -dsimp only [Vm.E, List.lookup, Nat.reduceAdd, Nat.reduceBEq, Int.reduceBNe, Int.reduceBEq, Bool.true_beq, Bool.false_beq, Vm.S, Nat.reduceLeDiff, AV.cells, of47, al47, sz47, es40, as40]
        refine idx_map kvAv l' i hlt' ?_
        simp only [hy, kvAv]
        simp -dsimp only [Vm.E, List.lookup, Nat.reduceAdd, Nat.reduceBEq, Int.reduceBNe, Int.reduceBEq, Bool.true_beq, Bool.false_beq, Vm.S, Nat.reduceLeDiff, AV.cells, of47, al47, sz47]
        refine call_one (S := eqKVSpec) rfl _ GaL.rfl ⟨x, y, rfl, ?_⟩
        cases he : (x.1 == y.1 && x.2 == y.2)
        · have hne : ¬ l = l' := fun e => by
            subst e
            rw [← hx, ← hy] at he
            simp at he
          rw [decide_eq_false hne] at hq
          simp -dsimp only [Vm.E, List.lookup, Nat.reduceAdd, Nat.reduceBEq, Int.reduceBNe, Int.reduceBEq, Bool.true_beq, Bool.false_beq, Tryz.results162]
          exact hq
        · have hxy : x = y := by
            simp only [Bool.and_eq_true, beq_iff_eq] at he
            exact Prod.ext he.1 he.2
          simp -dsimp only [Vm.E, List.lookup, Nat.reduceAdd, Nat.reduceBEq, Int.reduceBNe, Int.reduceBEq, Bool.true_beq, Bool.false_beq, hw]
          refine kept_intro ⟨l.length - (i + 1), by omega, _, le_mk [(1, .sl 2 (l'.map kvAv)), (2, .clo 163 []), (15, .sl 2 (l.map kvAv)), (16, .v (.int .i64 l.length)), (17, .v (.int .i64 (i + 1 : Nat)))] ?_, i + 1, by omega, rfl, fun j hj hj2 => ?_, rfl⟩
          · simp only [List.forall_mem_cons, List.not_mem_nil, false_imp_iff, implies_true, and_true]
            simp -dsimp only [Vm.E, List.lookup, Nat.reduceAdd, Nat.reduceBEq, Int.reduceBNe, Int.reduceBEq, Bool.true_beq, Bool.false_beq]
            exact ⟨.refl _, .refl _, .refl _, .refl _, .refl _⟩
          · by_cases hji : j = i
            · subst hji; rw [hx, hy]; exact hxy
            · exact hb j hj (by omega)
      · have hge : ¬ i < l.length := by have := of_decide_eq_false hcc; omega
        have he : l = l' := List.ext_getElem hlen fun j h1 h2 => hb j h1 (by omega)
        rw [decide_eq_true he] at hq
        simp -dsimp only [Vm.E, List.lookup, Nat.reduceAdd, Nat.reduceBEq, Int.reduceBNe, Int.reduceBEq, Bool.true_beq, Bool.false_beq, Tryz.results162]
        exact hq
  · have c1 : ((l.length : Int) != l'.length) = true := by simp; omega
    rw [decide_eq_false fun e => hlen (by rw [e])] at hq
    simp -dsimp only [Vm.E, List.lookup, Nat.reduceAdd, Nat.reduceBEq, Int.reduceBNe, Int.reduceBEq, Bool.true_beq, Bool.false_beq, c1, Tryz.results162]
    exact hq
def pairsSpec : Vm.Spec := fun args h Q => ∃ l l' : List KV, l.length ≤ 9223372036854775807 ∧ args = [.sl 2 (l.map kvAv), .sl 2 (l'.map kvAv)] ∧ Q (.v (.bool (decide (l = l')))) h
theorem does_pairs : Does Tryz.prog 98 pairsSpec := by
  refine does_of_awp (good_cons does_eqF good_nil) Tryz.func98 rfl (by decide +kernel) (by decide +kernel) ?_
  rintro args h Q ⟨l, l', hl, rfl, hq⟩
  refine ⟨by simp [Tryz.f98], ?_⟩
  rw [awpFunc_some (by rfl)]
  simp -dsimp only [Vm.E, List.lookup, Nat.reduceAdd, Nat.reduceBEq, Int.reduceBNe, Int.reduceBEq, Bool.true_beq, Bool.false_beq]
  refine call_one (S := eqFSpec) rfl _ GaL.rfl ⟨l, l', hl, rfl, ?_⟩
  simp -dsimp only [Vm.E, List.lookup, Nat.reduceAdd, Nat.reduceBEq, Int.reduceBNe, Int.reduceBEq, Bool.true_beq, Bool.false_beq, Tryz.results98]
  exact hq
def sameSpec : Vm.Spec := fun args h Q => ∃ (V : VId) (R : RId) (f : Fun), args = [.ptr V.iv 0, .ptr R.iv 0] ∧ Both h V R f ∧ f.n ≤ 536870912 ∧ ∀ h', Both h' V R f → Q (.v (.bool true)) h'
theorem does_same : Does Tryz.prog 27 sameSpec := by
  refine does_of_awp (good_cons does_scan (good_cons does_rScan (good_cons does_pairs good_nil))) Tryz.func27 rfl (by decide +kernel) (by decide +kernel) ?_
  rintro args h Q ⟨V, R, f, rfl, hB, hn, hq⟩
  refine ⟨by simp [Tryz.f27], ?_⟩
  rw [awpFunc_some (by rfl)]
  simp -dsimp only [Vm.E, List.lookup, Nat.reduceAdd, Nat.reduceBEq, Int.reduceBNe, Int.reduceBEq, Bool.true_beq, Bool.false_beq]
  refine call_one (S := scanSpec) rfl _ (.cons (.refl _) (.cons (.nil 1) .nil)) ⟨V, f, [], rfl, by simp, hB.1, hn, fun l h1 hsc hln hV1 hs1 => ?_⟩
  have hB1 := hB.quiet hV1 hs1
  simp -dsimp only [Vm.E, List.lookup, Nat.reduceAdd, Nat.reduceBEq, Int.reduceBNe, Int.reduceBEq, Bool.true_beq, Bool.false_beq]
  refine call_one (S := rScanSpec) rfl _ (.cons (.refl _) (.cons (.nil 1) .nil)) ⟨R, f, [], rfl, by simp, hB1.2.1, hn, fun l' hsc' hln' => ?_⟩
  obtain rfl := hsc.same hsc'
  simp -dsimp only [Vm.E, List.lookup, Nat.reduceAdd, Nat.reduceBEq, Int.reduceBNe, Int.reduceBEq, Bool.true_beq, Bool.false_beq]
  refine call_one (S := pairsSpec) rfl _ GaL.rfl ⟨l, l, by omega, rfl, ?_⟩
  simp -dsimp only [Vm.E, List.lookup, Nat.reduceAdd, Nat.reduceBEq, Int.reduceBNe, Int.reduceBEq, Bool.true_beq, Bool.false_beq, decide_true, Tryz.results27]
  exact hq _ hB1
end Go.Proofs.Lx
/- The law SeqnRises: walked. -/
set_option linter.unusedSimpArgs false
set_option linter.unusedVariables false
namespace Go.Proofs.Lx
open Go.Vm
attribute [local irreducible] awpArr awpBin awpMake awpAppend awpCvX awpStrOf awpBinX awpSlice awpBS awpStore awpAlloc awpCopy awpIndex awpDraw awpIdxX awpFa awpField awpLookup awpUpdate awpDelete awpClear awpRange awpNext awpEntry awpBuild
def yesSpec : Vm.Spec := fun args h Q => args = [] ∧ ∀ h', Q (.v (.bool true)) h'
theorem seqKey_ne {a b : Int} (h : clampK a ≠ clampK b) (ha : 0 ≤ a ∧ a < 256) (hb : 0 ≤ b ∧ b < 256) : seqKey a ≠ seqKey b := by
  have e1 : clampK a = a := by unfold clampK; split <;> split <;> omega
  have e2 : clampK b = b := by unfold clampK; split <;> split <;> omega
  intro he
  have h1 : be 4 (clampK a) = be 4 (clampK b) := by simpa [seqKey, keyOf, packs] using he
  rw [e1, e2] at h1 h
  have hb4 : ∀ n, be 4 n = [byteOf n 3, byteOf n 2, byteOf n 1, byteOf n 0] := fun n => rfl
  rw [hb4, hb4] at h1
  have h0 : byteOf a 0 = byteOf b 0 := by simp at h1; exact h1.2.2.2
  have g1 := byteOf_nat a 0
  have g2 := byteOf_nat b 0
  rw [h0] at g1
  simp at g1 g2
  omega
theorem does_law20awake : Does Tryz.prog 18 yesSpec := by
  refine does_of_awp (good_cons does_vnew (good_cons does_seqNext (good_cons does_seqLast good_nil))) Tryz.func18 rfl (by decide +kernel) (by decide +kernel) ?_
  rintro args h Q ⟨rfl, hq⟩
  refine ⟨by simp [Tryz.f18], ?_⟩
  rw [awpFunc_some (by rfl)]
  simp -dsimp only [Vm.E, List.lookup, Nat.reduceAdd, Nat.reduceBEq, Int.reduceBNe, Int.reduceBEq, Bool.true_beq, Bool.false_beq]
  refine call_one (S := vnewSpec) rfl _ GaL.rfl ⟨rfl, ?_⟩
  have hV := isView_new h
  generalize hh : (h ++ [AObj.map [] 0, AObj.map [] 0, vobj h.length (h.length + 1)]) = h0 at hV ⊢
  simp -dsimp only [Vm.E, List.lookup, Nat.reduceAdd, Nat.reduceBEq, Int.reduceBNe, Int.reduceBEq, Bool.true_beq, Bool.false_beq]
  have r0 : readOf noF (seqKey 1) = 0 := rfl
  refine call_one (S := seqNextSpec) rfl _ GaL.rfl ⟨⟨h.length + 2, h.length, h.length + 1⟩, _, 1, rfl, hV, fun hc => by rw [r0] at hc; omega, fun _ h1 hV1 _ => ?_⟩
  rw [r0] at hV1 ⊢
  simp -dsimp only [Vm.E, List.lookup, Nat.reduceAdd, Nat.reduceBEq, Int.reduceBNe, Int.reduceBEq, Bool.true_beq, Bool.false_beq]
  have r1 : readOf (upd noF (seqKey 1) (some (be 8 (0 + 1)))) (seqKey 1) = 1 := by rw [readOf_upd _ _ _ _ (by unfold I64; omega), if_pos rfl]; rfl
  refine call_one (S := seqNextSpec) rfl _ GaL.rfl ⟨⟨h.length + 2, h.length, h.length + 1⟩, _, 1, rfl, hV1, fun hc => by rw [r1] at hc; omega, fun _ h2 hV2 _ => ?_⟩
  rw [r1] at hV2 ⊢
  simp -dsimp only [Vm.E, List.lookup, Nat.reduceAdd, Nat.reduceBEq, Int.reduceBNe, Int.reduceBEq, Bool.true_beq, Bool.false_beq]
  refine nil_pointer Tryz.underlying26 ?_
  simp -dsimp only [Vm.E, List.lookup, Nat.reduceAdd, Nat.reduceBEq, Int.reduceBNe, Int.reduceBEq, Bool.true_beq, Bool.false_beq, Int.reduceAdd]
  have r2 : readOf (upd (upd noF (seqKey 1) (some (be 8 (0 + 1)))) (seqKey 1) (some (be 8 (1 + 1)))) (seqKey 1) = 2 := by rw [readOf_upd _ _ _ _ (by unfold I64; omega), if_pos rfl]; rfl
  have r3 : readOf (upd (upd noF (seqKey 1) (some (be 8 (0 + 1)))) (seqKey 1) (some (be 8 (1 + 1)))) (seqKey 2) = 0 := by
    have hne : seqKey 2 ≠ seqKey 1 := seqKey_ne (by decide) (by omega) (by omega)
    rw [readOf_upd _ _ _ _ (by unfold I64; omega), if_neg hne, readOf_upd _ _ _ _ (by unfold I64; omega), if_neg hne]; rfl
  refine call_one (S := seqLastSpec) rfl _ GaL.rfl ⟨⟨h.length + 2, h.length, h.length + 1⟩, _, 1, rfl, hV2, ?_⟩
  rw [r2]
  simp -dsimp only [Vm.E, List.lookup, Nat.reduceAdd, Nat.reduceBEq, Int.reduceBNe, Int.reduceBEq, Bool.true_beq, Bool.false_beq]
  refine call_one (S := seqLastSpec) rfl _ GaL.rfl ⟨⟨h.length + 2, h.length, h.length + 1⟩, _, 2, rfl, hV2, ?_⟩
  rw [r3]
  simp -dsimp only [Vm.E, List.lookup, Nat.reduceAdd, Nat.reduceBEq, Int.reduceBNe, Int.reduceBEq, Bool.true_beq, Bool.false_beq, Tryz.results18]
  exact hq _
end Go.Proofs.Lx
/- The law SeqnGives. -/
set_option linter.unusedSimpArgs false
set_option linter.unusedVariables false
namespace Go.Proofs.Lx
open Go.Vm
attribute [local irreducible] awpArr awpBin awpMake awpAppend awpCvX awpStrOf awpBinX awpSlice awpBS awpStore awpAlloc awpCopy awpIndex awpDraw awpIdxX awpFa awpField awpLookup awpUpdate awpDelete awpClear awpRange awpNext awpEntry awpBuild awpClearS awpIdxL
def vNewH (h : Heap) : Heap := h ++ [AObj.map [] 0, AObj.map [] 0, vobj h.length (h.length + 1)]
def vNewId (h : Heap) : VId := ⟨h.length + 2, h.length, h.length + 1⟩
theorem both_new (h : Heap) : Both (rNewH (vNewH h)) (vNewId h) (rNewId (vNewH h)) noF := by
  refine ⟨?_, isRef_new _, ?_⟩
  · unfold rNewH
    exact (isView_new h).more _
  · intro i hi hm
    have hl : (vNewH h).length = h.length + 3 := by simp [vNewH]
    simp only [vNewId, rNewId, hl, List.mem_cons, List.not_mem_nil, or_false] at hi hm
    omega
def addKV (f : Fun) (p : KV) : Fun := if rightKV p.1 p.2 then upd f p.1 (some p.2) else f
theorem addKV_n (f : Fun) (p : KV) : (addKV f p).n ≤ f.n + 1 := by
  unfold addKV
  split
  · exact Nat.le_refl _
  · exact Nat.le_succ _
theorem isA_kv {y : AV} (h : IsA (.agg [.sl (.int .u8), .sl (.int .u8)]) y) : ∃ p : KV, (p.1.length ≤ 9223372036854775807 ∧ p.2.length ≤ 9223372036854775807) ∧ y = kvAv p := by
  simp only [IsA, IsAll] at h
  obtain ⟨ys, ⟨y1, r1, rfl, h1, y2, r2, rfl, h2, rfl⟩, rfl⟩ := h
  obtain ⟨a, ha, rfl⟩ := isA_bytes (by simpa only [IsA] using h1)
  obtain ⟨b, hb, rfl⟩ := isA_bytes (by simpa only [IsA] using h2)
  exact ⟨(a, b), ⟨Nat.le_trans ha (by decide), Nat.le_trans hb (by decide)⟩, rfl⟩
def givesSpec : Vm.Spec := fun args h Q => ∃ (first : List KV) (l : List Int), first.length ≤ 9223372036854775807 ∧ l.length ≤ 9223372036854775807 ∧ args = [.sl 2 (first.map kvAv), .sl 1 (l.map encI)] ∧ ∀ h', Q (.v (.bool true)) h'
theorem few_true {l : List KV} {many : Int} (h : fewOf l many = true) : (l.length : Int) ≤ many := by
  unfold fewOf at h
  simp only [Bool.and_eq_true, decide_eq_true_eq] at h
  exact h.1
set_option maxRecDepth 20000 in
set_option maxHeartbeats 16000000 in
theorem does_gives : Does Tryz.prog 4 givesSpec := by
  refine does_of_awp (good_cons does_few (good_cons does_vnew (good_cons does_rNew (good_cons does_vput (good_cons does_rSet (good_cons does_seqNext (good_cons does_rNext (good_cons does_seqLast (good_cons does_rLast (good_cons does_same (good_cons does_law20awake good_nil))))))))))) Tryz.func4 rfl (by decide +kernel) (by decide +kernel) ?_
  rintro args h Q ⟨first, l, hfl, hl, rfl, hq⟩
  refine ⟨by simp [Tryz.f4], ?_⟩
  rw [awpFunc_some (by rfl)]
  simp -dsimp only [Vm.E, List.lookup, Nat.reduceAdd, Nat.reduceBEq, Int.reduceBNe, Int.reduceBEq, Bool.true_beq, Bool.false_beq]
  refine call_one (S := fewSpec) rfl _ GaL.rfl ⟨first, 20, hfl, rfl, ?_⟩
  have fin : ∀ {h' : Heap} {K : AV → Heap → Prop}, (∀ h2, K (.v (.bool true)) h2) → yesSpec [] h' K := fun hK => ⟨rfl, hK⟩
  cases cf : fewOf first 20
  · simp -dsimp only [Vm.E, List.lookup, Nat.reduceAdd, Nat.reduceBEq, Int.reduceBNe, Int.reduceBEq, Bool.true_beq, Bool.false_beq]
    refine call_one (S := yesSpec) rfl _ GaL.rfl ⟨rfl, fun h2 => ?_⟩
    simp -dsimp only [Vm.E, List.lookup, Nat.reduceAdd, Nat.reduceBEq, Int.reduceBNe, Int.reduceBEq, Bool.true_beq, Bool.false_beq, Tryz.results4]
    exact hq _
  · have hf20 := few_true cf
    simp -dsimp only [Vm.E, List.lookup, Nat.reduceAdd, Nat.reduceBEq, Int.reduceBNe, Int.reduceBEq, Bool.true_beq, Bool.false_beq, Tryz.underlying41]
    cases c40 : decide ((l.length : Int) > 40)
    · have d40 := of_decide_eq_false c40
      simp -dsimp only [Vm.E, List.lookup, Nat.reduceAdd, Nat.reduceBEq, Int.reduceBNe, Int.reduceBEq, Bool.true_beq, Bool.false_beq]
      refine call_one (S := vnewSpec) rfl _ GaL.rfl ⟨rfl, ?_⟩
      simp -dsimp only [Vm.E, List.lookup, Nat.reduceAdd, Nat.reduceBEq, Int.reduceBNe, Int.reduceBEq, Bool.true_beq, Bool.false_beq]
      refine call_one (S := rNewSpec) rfl _ (.cons (.nil 2) .nil) ⟨rfl, ?_⟩
      have hB0 := both_new h
      obtain ⟨V, hV⟩ : ∃ V, V = vNewId h := ⟨_, rfl⟩
      obtain ⟨R, hR⟩ : ∃ R, R = rNewId (vNewH h) := ⟨_, rfl⟩
      obtain ⟨h0, hh0⟩ : ∃ h0, h0 = rNewH (vNewH h) := ⟨_, rfl⟩
      have e1 : h.length + 2 = V.iv := by rw [hV]; rfl
      have e2 : (rNewId (h ++ [AObj.map [] 0, AObj.map [] 0, vobj h.length (h.length + 1)])).iv = R.iv := by rw [hR]; rfl
      have e3 : rNewH (h ++ [AObj.map [] 0, AObj.map [] 0, vobj h.length (h.length + 1)]) = h0 := by rw [hh0]; rfl
      rw [← hV, ← hR, ← hh0] at hB0
      simp only [e1, e2, e3]
      clear e1 e2 e3 hV hR hh0
      simp -dsimp only [Vm.E, List.lookup, Nat.reduceAdd, Nat.reduceBEq, Int.reduceBNe, Int.reduceBEq, Bool.true_beq, Bool.false_beq, Tryz.underlying40]
      refine awp_loop (fun m s h' => ∃ (i : Nat) (f : Fun), i + m = first.length ∧ Both h' V R f ∧ f.n ≤ i ∧ s = mk [(1, .sl 1 (l.map encI)), (5, .ptr V.iv 0), (6, .ptr R.iv 0), (26, .sl 2 (first.map kvAv)), (27, .v (.int .i64 first.length)), (28, .v (.int .i64 i))])
        first.length _ (le_mk _ ?_) ⟨0, noF, by omega, hB0, Nat.le_refl _, rfl⟩ ?_
      · simp only [List.forall_mem_cons, List.not_mem_nil, false_imp_iff, implies_true, and_true]
        simp -dsimp only [Vm.E, List.lookup, Nat.reduceAdd, Nat.reduceBEq, Int.reduceBNe, Int.reduceBEq, Bool.true_beq, Bool.false_beq]
        exact ⟨.refl _, .refl _, .refl _, .refl _, .refl _, .refl _⟩
      · rintro m s h' ⟨i, f, hi, hB, hfn, rfl⟩
        simp -dsimp only [Vm.E, List.lookup, Nat.reduceAdd, Nat.reduceBEq, Int.reduceBNe, Int.reduceBEq, Bool.true_beq, Bool.false_beq]
        refine cond_intro (fun hcc => ?_) (fun hcc => ?_)
        · have hlt : i < first.length := by have := of_decide_eq_true hcc; omega
          have hw : IntKind.i64.wrap ((i : Int) + 1) = ((i + 1 : Nat) : Int) := by rw [wrap_i64 (by omega) (by omega)]; simp
          obtain ⟨p, hp⟩ : ∃ p, first[i] = p := ⟨_, rfl⟩
          have hnn := addKV_n f p
          simp -dsimp only [Vm.E, List.lookup, Nat.reduceAdd, Nat.reduceBEq, Int.reduceBNe, Int.reduceBEq, Bool.true_beq, Bool.false_beq, es40, as40]
          refine idx_map kvAv first i hlt ?_
          simp only [hp, kvAv]
          simp -dsimp only [Vm.E, List.lookup, Nat.reduceAdd, Nat.reduceBEq, Int.reduceBNe, Int.reduceBEq, Bool.true_beq, Bool.false_beq, Vm.S, Nat.reduceLeDiff, AV.cells, of47, al47, sz47, fo47_0, fo47_1, of45]
          have next : ∀ {h1 : Heap} {e : Int}, isView h1 V (addKV f p) → isRef h1 R f → (∀ g, isRef g R (addKV f p) → Same h1 g (rFoot R) → Both g V R (addKV f p)) := fun hV1 _ g hg hs => hB.ref hV1 hg hs
          refine call_one (S := vputSpec) rfl _ GaL.rfl ⟨V, f, p.1, p.2, rfl, hB.1, fun hr h1 g1 g2 => ?_, fun hr => ?_⟩
          · have hR1 := hB.view g1 g2
            have ea : upd f p.1 (some p.2) = addKV f p := by unfold addKV; rw [if_pos hr]
            rw [ea] at g1
            simp -dsimp only [Vm.E, List.lookup, Nat.reduceAdd, Nat.reduceBEq, Int.reduceBNe, Int.reduceBEq, Bool.true_beq, Bool.false_beq, Vm.S, Nat.reduceLeDiff, of47]
            refine call_one (S := rSetSpec) rfl _ GaL.rfl ⟨R, f, p, rfl, hR1, by omega, fun h2 g3 g4 => ?_⟩
            have hB2 := hB.ref g1 g3 g4
            simp -dsimp only [Vm.E, List.lookup, Nat.reduceAdd, Nat.reduceBEq, Int.reduceBNe, Int.reduceBEq, Bool.true_beq, Bool.false_beq]
            refine kept_intro ⟨first.length - (i + 1), by omega, _, le_mk [(1, .sl 1 (l.map encI)), (5, .ptr V.iv 0), (6, .ptr R.iv 0), (26, .sl 2 (first.map kvAv)), (27, .v (.int .i64 first.length)), (28, .v (.int .i64 (i + 1 : Nat)))] ?_, i + 1, addKV f p, by omega, hB2, by omega, rfl⟩
            simp only [List.forall_mem_cons, List.not_mem_nil, false_imp_iff, implies_true, and_true]
            simp -dsimp only [Vm.E, List.lookup, Nat.reduceAdd, Nat.reduceBEq, Int.reduceBNe, Int.reduceBEq, Bool.true_beq, Bool.false_beq, hw]
            exact ⟨.refl _, .refl _, .refl _, .refl _, .refl _, .refl _⟩
          · have ea : f = addKV f p := by unfold addKV; rw [if_neg (by rw [hr]; decide)]
            have hV1 : isView h' V (addKV f p) := by rw [← ea]; exact hB.1
            simp -dsimp only [Vm.E, List.lookup, Nat.reduceAdd, Nat.reduceBEq, Int.reduceBNe, Int.reduceBEq, Bool.true_beq, Bool.false_beq, Vm.S, Nat.reduceLeDiff, of47]
            refine call_one (S := rSetSpec) rfl _ GaL.rfl ⟨R, f, p, rfl, hB.2.1, by omega, fun h2 g3 g4 => ?_⟩
            have hB2 := hB.ref hV1 g3 g4
            simp -dsimp only [Vm.E, List.lookup, Nat.reduceAdd, Nat.reduceBEq, Int.reduceBNe, Int.reduceBEq, Bool.true_beq, Bool.false_beq]
            refine kept_intro ⟨first.length - (i + 1), by omega, _, le_mk [(1, .sl 1 (l.map encI)), (5, .ptr V.iv 0), (6, .ptr R.iv 0), (26, .sl 2 (first.map kvAv)), (27, .v (.int .i64 first.length)), (28, .v (.int .i64 (i + 1 : Nat)))] ?_, i + 1, addKV f p, by omega, hB2, by omega, rfl⟩
            simp only [List.forall_mem_cons, List.not_mem_nil, false_imp_iff, implies_true, and_true]
            simp -dsimp only [Vm.E, List.lookup, Nat.reduceAdd, Nat.reduceBEq, Int.reduceBNe, Int.reduceBEq, Bool.true_beq, Bool.false_beq, hw]
            exact ⟨.refl _, .refl _, .refl _, .refl _, .refl _, .refl _⟩
        · simp -dsimp only [Vm.E, List.lookup, Nat.reduceAdd, Nat.reduceBEq, Int.reduceBNe, Int.reduceBEq, Bool.true_beq, Bool.false_beq, Tryz.underlying41]
          refine awp_loop (fun m s h' => ∃ (i : Nat) (f : Fun), i + m = l.length ∧ Both h' V R f ∧ f.n ≤ 20 + i ∧ s = mk [(5, .ptr V.iv 0), (6, .ptr R.iv 0), (42, .sl 1 (l.map encI)), (43, .v (.int .i64 l.length)), (44, .v (.int .i64 i))])
            l.length _ (le_mk _ ?_) ⟨0, f, by omega, hB, by omega, rfl⟩ ?_
          · simp only [List.forall_mem_cons, List.not_mem_nil, false_imp_iff, implies_true, and_true]
            simp -dsimp only [Vm.E, List.lookup, Nat.reduceAdd, Nat.reduceBEq, Int.reduceBNe, Int.reduceBEq, Bool.true_beq, Bool.false_beq]
            exact ⟨.refl _, .refl _, .refl _, .refl _, .refl _⟩
          · clear hB hfn hi
            rintro m s h2 ⟨i, f, hi, hB, hfn, rfl⟩
            simp -dsimp only [Vm.E, List.lookup, Nat.reduceAdd, Nat.reduceBEq, Int.reduceBNe, Int.reduceBEq, Bool.true_beq, Bool.false_beq]
            refine cond_intro (fun hcc => ?_) (fun hcc => ?_)
            · have hlt : i < l.length := by have := of_decide_eq_true hcc; omega
              have hw : IntKind.i64.wrap ((i : Int) + 1) = ((i + 1 : Nat) : Int) := by rw [wrap_i64 (by omega) (by omega)]; simp
              simp -dsimp only [Vm.E, List.lookup, Nat.reduceAdd, Nat.reduceBEq, Int.reduceBNe, Int.reduceBEq, Bool.true_beq, Bool.false_beq, es41, as41]
              refine idx_ints l i hlt ?_
              obtain ⟨n, hn⟩ : ∃ n, l[i] = n := ⟨_, rfl⟩
              simp only [hn]
              simp -dsimp only [Vm.E, List.lookup, Nat.reduceAdd, Nat.reduceBEq, Int.reduceBNe, Int.reduceBEq, Bool.true_beq, Bool.false_beq, of3]
              refine call_one (S := seqNextSpec) rfl _ GaL.rfl ⟨V, f, n, rfl, hB.1, fun hr => ?_, fun hr h3 g1 g2 => ?_⟩
              · simp -dsimp only [Vm.E, List.lookup, Nat.reduceAdd, Nat.reduceBEq, Int.reduceBNe, Int.reduceBEq, Bool.true_beq, Bool.false_beq]
                refine call_one (S := rNextSpec) rfl _ GaL.rfl ⟨R, f, n, rfl, hB.2.1, by omega, fun _ => ?_, fun hr2 => absurd hr hr2⟩
                simp -dsimp only [Vm.E, List.lookup, Nat.reduceAdd, Nat.reduceBEq, Int.reduceBNe, Int.reduceBEq, Bool.true_beq, Bool.false_beq, bne_self_eq_false]
                refine call_one (S := seqLastSpec) rfl _ GaL.rfl ⟨V, f, n, rfl, hB.1, ?_⟩
                simp -dsimp only [Vm.E, List.lookup, Nat.reduceAdd, Nat.reduceBEq, Int.reduceBNe, Int.reduceBEq, Bool.true_beq, Bool.false_beq, bne_self_eq_false]
                refine call_one (S := rLastSpec) rfl _ GaL.rfl ⟨R, f, n, rfl, hB.2.1, by omega, ?_⟩
                simp -dsimp only [Vm.E, List.lookup, Nat.reduceAdd, Nat.reduceBEq, Int.reduceBNe, Int.reduceBEq, Bool.true_beq, Bool.false_beq, bne_self_eq_false]
                refine kept_intro ⟨l.length - (i + 1), by omega, _, le_mk [(5, .ptr V.iv 0), (6, .ptr R.iv 0), (42, .sl 1 (l.map encI)), (43, .v (.int .i64 l.length)), (44, .v (.int .i64 (i + 1 : Nat)))] ?_, i + 1, f, by omega, hB, by omega, rfl⟩
                simp only [List.forall_mem_cons, List.not_mem_nil, false_imp_iff, implies_true, and_true]
                simp -dsimp only [Vm.E, List.lookup, Nat.reduceAdd, Nat.reduceBEq, Int.reduceBNe, Int.reduceBEq, Bool.true_beq, Bool.false_beq, hw]
                exact ⟨.refl _, .refl _, .refl _, .refl _, .refl _⟩
              · have hR1 := hB.view g1 g2
                have hfn1 : (upd f (seqKey n) (some (be 8 (readOf f (seqKey n) + 1)))).n ≤ 20 + (i + 1) := by show f.n + 1 ≤ _; omega
                simp -dsimp only [Vm.E, List.lookup, Nat.reduceAdd, Nat.reduceBEq, Int.reduceBNe, Int.reduceBEq, Bool.true_beq, Bool.false_beq]
                refine call_one (S := rNextSpec) rfl _ GaL.rfl ⟨R, f, n, rfl, hR1, by omega, fun hr2 => absurd hr2 hr, fun _ h4 g3 g4 => ?_⟩
                have hB2 := hB.ref g1 g3 g4
                generalize upd f (seqKey n) (some (be 8 (readOf f (seqKey n) + 1))) = f2 at hB2 hfn1
                simp -dsimp only [Vm.E, List.lookup, Nat.reduceAdd, Nat.reduceBEq, Int.reduceBNe, Int.reduceBEq, Bool.true_beq, Bool.false_beq, bne_self_eq_false]
                refine call_one (S := seqLastSpec) rfl _ GaL.rfl ⟨V, f2, n, rfl, hB2.1, ?_⟩
                simp -dsimp only [Vm.E, List.lookup, Nat.reduceAdd, Nat.reduceBEq, Int.reduceBNe, Int.reduceBEq, Bool.true_beq, Bool.false_beq, bne_self_eq_false]
                refine call_one (S := rLastSpec) rfl _ GaL.rfl ⟨R, f2, n, rfl, hB2.2.1, by omega, ?_⟩
                simp -dsimp only [Vm.E, List.lookup, Nat.reduceAdd, Nat.reduceBEq, Int.reduceBNe, Int.reduceBEq, Bool.true_beq, Bool.false_beq, bne_self_eq_false]
                refine kept_intro ⟨l.length - (i + 1), by omega, _, le_mk [(5, .ptr V.iv 0), (6, .ptr R.iv 0), (42, .sl 1 (l.map encI)), (43, .v (.int .i64 l.length)), (44, .v (.int .i64 (i + 1 : Nat)))] ?_, i + 1, f2, by omega, hB2, by omega, rfl⟩
                simp only [List.forall_mem_cons, List.not_mem_nil, false_imp_iff, implies_true, and_true]
                simp -dsimp only [Vm.E, List.lookup, Nat.reduceAdd, Nat.reduceBEq, Int.reduceBNe, Int.reduceBEq, Bool.true_beq, Bool.false_beq, hw]
                exact ⟨.refl _, .refl _, .refl _, .refl _, .refl _⟩
            · simp -dsimp only [Vm.E, List.lookup, Nat.reduceAdd, Nat.reduceBEq, Int.reduceBNe, Int.reduceBEq, Bool.true_beq, Bool.false_beq]
              refine call_one (S := sameSpec) rfl _ GaL.rfl ⟨V, R, f, rfl, hB, by omega, fun h3 _ => ?_⟩
              simp -dsimp only [Vm.E, List.lookup, Nat.reduceAdd, Nat.reduceBEq, Int.reduceBNe, Int.reduceBEq, Bool.true_beq, Bool.false_beq]
              refine call_one (S := yesSpec) rfl _ GaL.rfl ⟨rfl, fun h4 => ?_⟩
              simp -dsimp only [Vm.E, List.lookup, Nat.reduceAdd, Nat.reduceBEq, Int.reduceBNe, Int.reduceBEq, Bool.true_beq, Bool.false_beq, Tryz.results4]
              exact hq _
    · simp -dsimp only [Vm.E, List.lookup, Nat.reduceAdd, Nat.reduceBEq, Int.reduceBNe, Int.reduceBEq, Bool.true_beq, Bool.false_beq]
      refine call_one (S := yesSpec) rfl _ GaL.rfl ⟨rfl, fun h2 => ?_⟩
      simp -dsimp only [Vm.E, List.lookup, Nat.reduceAdd, Nat.reduceBEq, Int.reduceBNe, Int.reduceBEq, Bool.true_beq, Bool.false_beq, Tryz.results4]
      exact hq _
theorem gives_args {y0 y1 : AV} (i0 : IsA (.sl (.agg [.sl (.int .u8), .sl (.int .u8)])) y0) (i1 : IsA (.sl (.int .i64)) y1) {Q : AV → Heap → Prop} (hq : ∀ h', Q (.v (.bool true)) h') : givesSpec [y0, y1] [] Q := by
  obtain ⟨f, hf, rfl, -⟩ := isA_list _ kvAv (fun y hy => isA_kv hy) i0
  obtain ⟨l, hl, rfl, -⟩ := isA_list _ encI (fun y hy => isA_int hy) i1
  exact ⟨f, l, hf, hl, rfl, hq⟩
end Go.Proofs.Lx
/- Nodes that go: IndexFunc and DeleteFunc at nodes (printed by gendel.py out of L15). -/
set_option linter.unusedSimpArgs false
set_option linter.unusedVariables false
namespace Go.Proofs.Lx
open Go.Vm
attribute [local irreducible] awpArr awpBin awpMake awpAppend awpCvX awpStrOf awpBinX awpSlice awpBS awpStore awpAlloc awpCopy awpIndex awpDraw awpIdxX awpFa awpField awpLookup awpUpdate awpDelete awpClear awpRange awpNext awpEntry awpBuild awpClearS awpIdxL
def isNd (x : AV) : Prop := ∃ n : Nd, x = .agg [AV.v (.int .i64 n.year), AV.v (.int .i64 n.id), AV.v (.int .i64 n.parent), AV.v (.int .i64 n.fund), AV.v (.int .i64 n.obj), AV.v (.bool n.abs), AV.v (.int .i64 n.limit), AV.v (.int .i64 n.pre), AV.v (.int .i64 n.enc), AV.v (.int .i64 n.exp), AV.v (.int .i64 n.lapsed), AV.v (.int .i64 n.carried)]
theorem isNd.cells {x : AV} (h : isNd x) : x.cells.length = 12 := by obtain ⟨n, rfl⟩ := h; rfl
def ixPSpecNd (T : Tab) : Vm.Spec := fun args h Q => ∃ (g : FuncId) (caps : List AV) (S : Vm.Spec) (p : AV → Bool) (xs : List AV) (id c e m : Nat) (cs : List AV), T g = some S ∧ args = [.osl id 0 xs.length c, .clo g caps] ∧ h[id]? = some (.row e m cs) ∧
  cs.take (xs.length * 12) = flat xs ∧ (∀ x ∈ xs, isNd x) ∧ xs.length ≤ 4611686018427387904 ∧ (∀ x ∈ xs, ∀ Q' : AV → Heap → Prop, Q' (.v (.bool (p x))) h → S (x :: caps) h Q') ∧ Q (.v (.int .i64 (ixOf p xs))) h
theorem does_ixPNd {T : Tab} (hT : Good T) : Does Tryz.prog 192 (ixPSpecNd T) := by
  refine does_of_awp hT Tryz.func192 rfl (by decide +kernel) (by decide +kernel) ?_
  rintro args h Q ⟨g, caps, S, p, xs, id, c, e, m, cs, hg, rfl, hh, hc, hu, hl, hS, hq⟩
  refine ⟨by simp [Tryz.f192], ?_⟩
  rw [awpFunc_some (by rfl)]
  have hu2 : ∀ x ∈ xs, x.cells.length = 12 := fun x hx => (hu x hx).cells
  simp -dsimp only [Vm.E, List.lookup, Nat.reduceAdd, Nat.reduceBEq, Int.reduceBNe, Int.reduceBEq, Bool.true_beq, Bool.false_beq, Tryz.underlying23]
  refine awp_loop (fun m' s h' => ∃ i : Nat, i + m' = xs.length ∧ h' = h ∧ (∀ j (hj : j < i) (hj2 : j < xs.length), p xs[j] = false) ∧ s = mk [(0, .osl id 0 xs.length c), (1, .clo g caps), (7, .v (.int .i64 xs.length)), (8, .v (.int .i64 i))])
    xs.length _ (le_mk _ ?_) ⟨0, by omega, rfl, fun j hj => by omega, rfl⟩ ?_
  · simp only [List.forall_mem_cons, List.not_mem_nil, false_imp_iff, implies_true, and_true]
    simp -dsimp only [Vm.E, List.lookup, Nat.reduceAdd, Nat.reduceBEq, Int.reduceBNe, Int.reduceBEq, Bool.true_beq, Bool.false_beq]
    exact ⟨.refl _, .refl _, .refl _, .refl _⟩
  · rintro m' s h' ⟨i, hi, rfl, hp, rfl⟩
    simp -dsimp only [Vm.E, List.lookup, Nat.reduceAdd, Nat.reduceBEq, Int.reduceBNe, Int.reduceBEq, Bool.true_beq, Bool.false_beq]
    refine cond_intro (fun hcc => ?_) (fun hcc => ?_)
    · have hlt : i < xs.length := by have := of_decide_eq_true hcc; omega
      obtain ⟨r1, r2⟩ := row_elem hu2 hc i hlt
      obtain ⟨n, hx⟩ := hu xs[i] (List.getElem_mem hlt)
      have hmem := List.getElem_mem hlt
      have r1' : (cs.drop (i * 12)).take 12 = [AV.v (.int .i64 n.year), AV.v (.int .i64 n.id), AV.v (.int .i64 n.parent), AV.v (.int .i64 n.fund), AV.v (.int .i64 n.obj), AV.v (.bool n.abs), AV.v (.int .i64 n.limit), AV.v (.int .i64 n.pre), AV.v (.int .i64 n.enc), AV.v (.int .i64 n.exp), AV.v (.int .i64 n.lapsed), AV.v (.int .i64 n.carried)] := by rw [r1, hx]; rfl
      simp -dsimp only [Vm.E, List.lookup, Nat.reduceAdd, Nat.reduceBEq, Int.reduceBNe, Int.reduceBEq, Bool.true_beq, Bool.false_beq, es23, as23]
      refine idxL_intro (by omega) (by omega) ?_
      simp -dsimp only [Vm.E, List.lookup, Nat.reduceAdd, Nat.reduceBEq, Int.reduceBNe, Int.reduceBEq, Bool.true_beq, Bool.false_beq, hh, of25, Int.toNat_natCast, r1', r2]
      refine call_one (S := S) hg _ GaL.rfl ?_
      rw [hx] at hmem
      refine hS _ hmem _ ?_
      cases hpi : p (.agg [AV.v (.int .i64 n.year), AV.v (.int .i64 n.id), AV.v (.int .i64 n.parent), AV.v (.int .i64 n.fund), AV.v (.int .i64 n.obj), AV.v (.bool n.abs), AV.v (.int .i64 n.limit), AV.v (.int .i64 n.pre), AV.v (.int .i64 n.enc), AV.v (.int .i64 n.exp), AV.v (.int .i64 n.lapsed), AV.v (.int .i64 n.carried)])
      · simp -dsimp only [Vm.E, List.lookup, Nat.reduceAdd, Nat.reduceBEq, Int.reduceBNe, Int.reduceBEq, Bool.true_beq, Bool.false_beq]
        have hw : IntKind.i64.wrap ((i : Int) + 1) = ((i + 1 : Nat) : Int) := by rw [wrap_i64 (by omega) (by omega)]; simp
        refine kept_intro ⟨xs.length - (i + 1), by omega, _, le_mk [(0, .osl id 0 xs.length c), (1, .clo g caps), (7, .v (.int .i64 xs.length)), (8, .v (.int .i64 (i + 1 : Nat)))] ?_, i + 1, by omega, rfl, fun j hj hj2 => ?_, rfl⟩
        · simp only [List.forall_mem_cons, List.not_mem_nil, false_imp_iff, implies_true, and_true]
          simp -dsimp only [Vm.E, List.lookup, Nat.reduceAdd, Nat.reduceBEq, Int.reduceBNe, Int.reduceBEq, Bool.true_beq, Bool.false_beq, hw]
          exact ⟨.refl _, .refl _, .refl _, .refl _⟩
        · by_cases hji : j = i
          · subst hji; rw [hx]; exact hpi
          · exact hp j (by omega) hj2
      · simp -dsimp only [Vm.E, List.lookup, Nat.reduceAdd, Nat.reduceBEq, Int.reduceBNe, Int.reduceBEq, Bool.true_beq, Bool.false_beq, Tryz.results192]
        rw [ixOf_some hlt (by rw [hx]; exact hpi) fun j hj => hp j hj (by omega)] at hq
        exact hq
    · have hge : ¬ i < xs.length := by have := of_decide_eq_false hcc; omega
      simp -dsimp only [Vm.E, List.lookup, Nat.reduceAdd, Nat.reduceBEq, Int.reduceBNe, Int.reduceBEq, Bool.true_beq, Bool.false_beq, Tryz.results192]
      rw [ixOf_none fun x hx => by
        obtain ⟨j, hj, rfl⟩ := List.getElem_of_mem hx
        exact hp j (by omega) hj] at hq
      exact hq
def ixPNilSpecNd : Vm.Spec := fun args h Q => ∃ g caps, args = [.v (.slice none 0 0), .clo g caps] ∧ Q (.v (.int .i64 (-1))) h
theorem does_ixPNilNd : Does Tryz.prog 192 ixPNilSpecNd := by
  refine does_of_awp good_nil Tryz.func192 rfl (by decide +kernel) (by decide +kernel) ?_
  rintro args h Q ⟨g, caps, rfl, hq⟩
  refine ⟨by simp [Tryz.f192], ?_⟩
  rw [awpFunc_some (by rfl)]
  simp -dsimp only [Vm.E, List.lookup, Nat.reduceAdd, Nat.reduceBEq, Int.reduceBNe, Int.reduceBEq, Bool.true_beq, Bool.false_beq, Tryz.underlying23]
  refine awp_loop (fun m' s h' => h' = h ∧ s = mk [(7, .v (.int .i64 0)), (8, .v (.int .i64 0))]) 0 _ (le_mk _ ?_) ⟨rfl, rfl⟩ ?_
  · simp only [List.forall_mem_cons, List.not_mem_nil, false_imp_iff, implies_true, and_true]
    simp -dsimp only [Vm.E, List.lookup, Nat.reduceAdd, Nat.reduceBEq, Int.reduceBNe, Int.reduceBEq, Bool.true_beq, Bool.false_beq]
    exact ⟨.refl _, .refl _⟩
  · rintro m' s h' ⟨rfl, rfl⟩
    simp -dsimp only [Vm.E, List.lookup, Nat.reduceAdd, Nat.reduceBEq, Int.reduceBNe, Int.reduceBEq, Bool.true_beq, Bool.false_beq]
    refine cond_intro (fun hcc => ?_) (fun hcc => ?_)
    · have := of_decide_eq_true hcc
      omega
    · simp -dsimp only [Vm.E, List.lookup, Nat.reduceAdd, Nat.reduceBEq, Int.reduceBNe, Int.reduceBEq, Bool.true_beq, Bool.false_beq, Tryz.results192]
      exact hq
def delPSpecNd (T : Tab) : Vm.Spec := fun args h Q => ∃ (g : FuncId) (caps : List AV) (S : Vm.Spec) (p : AV → Bool) (xs : List AV) (h0 : Heap) (c e : Nat), T g = some S ∧ args = [.osl h0.length 0 xs.length c, .clo g caps] ∧ h = h0 ++ [.row e (c * 12) (flat xs)] ∧
  xs.length ≤ c ∧ (∀ x ∈ xs, isNd x) ∧ xs.length ≤ 4611686018427387904 ∧ (∀ cs, ∀ x ∈ xs, ∀ Q' : AV → Heap → Prop, Q' (.v (.bool (p x))) (h0 ++ [.row e (c * 12) cs]) → S (x :: caps) (h0 ++ [.row e (c * 12) cs]) Q') ∧
  ∀ cs, cs.take ((stay p xs).length * 12) = flat (stay p xs) → Q (.osl h0.length 0 (stay p xs).length c) (h0 ++ [.row e (c * 12) cs])
theorem does_delPNd {T T2 : Tab} (hT : Good T) (hsub : ∀ g S, T2 g = some S → T g = some S) (hg0 : T 192 = some (orS (ixPSpecNd T2) ixPNilSpecNd)) : Does Tryz.prog 132 (delPSpecNd T2) := by
  refine does_of_awp hT Tryz.func132 rfl (by decide +kernel) (by decide +kernel) ?_
  rintro args h Q ⟨g, caps, S, p, xs, h0, c, e, hg, rfl, rfl, hcl, hu, hl, hS, hq⟩
  refine ⟨by simp [Tryz.f132], ?_⟩
  rw [awpFunc_some (by rfl)]
  have hu2 : ∀ x ∈ xs, x.cells.length = 12 := fun x hx => (hu x hx).cells
  have hfl := flat_length hu2
  simp -dsimp only [Vm.E, List.lookup, Nat.reduceAdd, Nat.reduceBEq, Int.reduceBNe, Int.reduceBEq, Bool.true_beq, Bool.false_beq]
  refine call_one (S := orS (ixPSpecNd T2) ixPNilSpecNd) hg0 _ GaL.rfl (.inl ⟨g, caps, S, p, xs, h0.length, c, e, c * 12, flat xs, hg, rfl, heap_last _ _, by rw [List.take_of_length_le (by omega)], hu, hl, hS _, ?_⟩)
  cases c1 : (ixOf p xs == -1)
  · have d1 : ¬ ixOf p xs = -1 := by simpa using c1
    obtain ⟨ix, hix, hil, hpi, hpj⟩ : ∃ ix : Nat, ixOf p xs = ix ∧ ∃ hil : ix < xs.length, p (xs[ix]'hil) = true ∧ ∀ j (hj : j < ix), p (xs[j]'(by omega)) = false := by
      cases hx : xs.findIdx? p with
      | none => rw [ixOf, hx] at d1; exact absurd rfl d1
      | some i =>
        obtain ⟨h1, h2, h3⟩ := List.findIdx?_eq_some_iff_getElem.1 hx
        exact ⟨i, by rw [ixOf, hx], h1, h2, fun j hj => by simpa using h3 j hj⟩
    rw [hix]
    have c1' : (((ix : Nat) : Int) == -1) = false := by simp
    have hw0 : IntKind.i64.wrap ((ix : Int) + 1) = ((ix + 1 : Nat) : Int) := by rw [wrap_i64 (by omega) (by omega)]; simp
    simp -dsimp only [Vm.E, List.lookup, Nat.reduceAdd, Nat.reduceBEq, Int.reduceBNe, Int.reduceBEq, Bool.true_beq, Bool.false_beq, c1', hw0]
    have hfirst : stay p (xs.take (ix + 1)) = xs.take ix := by
      rw [stay, List.take_succ_eq_append_getElem hil, List.filter_append, List.filter_cons, hpi]
      simp only [Bool.not_true, Bool.false_eq_true, if_false, List.filter_nil, List.append_nil]
      exact List.filter_eq_self.2 fun x hx => by
        obtain ⟨j, hj, rfl⟩ := List.getElem_of_mem hx
        rw [List.length_take] at hj
        rw [List.getElem_take, hpj j (by omega)]; rfl
    refine awp_loop (fun m' s h' => ∃ (j i : Nat) (cs : List AV), j + m' = xs.length ∧ i ≤ j ∧ i = (stay p (xs.take j)).length ∧ cs.length = xs.length * 12 ∧ cs.take (i * 12) = flat (stay p (xs.take j)) ∧ cs.drop (j * 12) = (flat xs).drop (j * 12) ∧
        h' = h0 ++ [.row e (c * 12) cs] ∧ s = mk [(0, .osl h0.length 0 xs.length c), (1, .clo g caps), (5, .v (.int .i64 i)), (6, .v (.int .i64 j))])
      (xs.length - (ix + 1)) _ (le_mk _ ?_) ⟨ix + 1, ix, flat xs, by omega, by omega, by rw [hfirst, List.length_take]; omega, hfl, by rw [hfirst]; exact take_flat hu2 ix (by omega), rfl, rfl, rfl⟩ ?_
    · simp only [List.forall_mem_cons, List.not_mem_nil, false_imp_iff, implies_true, and_true]
      simp -dsimp only [Vm.E, List.lookup, Nat.reduceAdd, Nat.reduceBEq, Int.reduceBNe, Int.reduceBEq, Bool.true_beq, Bool.false_beq]
      exact ⟨.refl _, .refl _, .refl _, .refl _⟩
    · rintro m' s h' ⟨j, i, cs, hj, hij, hil2, hcsl, hct, hcd, rfl, rfl⟩
      simp -dsimp only [Vm.E, List.lookup, Nat.reduceAdd, Nat.reduceBEq, Int.reduceBNe, Int.reduceBEq, Bool.true_beq, Bool.false_beq, Tryz.underlying23]
      refine cond_intro (fun hcc => ?_) (fun hcc => ?_)
      · have hlt : j < xs.length := by have := of_decide_eq_true hcc; omega
        obtain ⟨n, hx⟩ := hu xs[j] (List.getElem_mem hlt)
        have hmem := List.getElem_mem hlt
        rw [hx] at hmem
        have hw : IntKind.i64.wrap ((j : Int) + 1) = ((j + 1 : Nat) : Int) := by rw [wrap_i64 (by omega) (by omega)]; simp
        have hw2 : IntKind.i64.wrap ((i : Int) + 1) = ((i + 1 : Nat) : Int) := by rw [wrap_i64 (by omega) (by omega)]; simp
        have r1 : (cs.drop (j * 12)).take 12 = [AV.v (.int .i64 n.year), AV.v (.int .i64 n.id), AV.v (.int .i64 n.parent), AV.v (.int .i64 n.fund), AV.v (.int .i64 n.obj), AV.v (.bool n.abs), AV.v (.int .i64 n.limit), AV.v (.int .i64 n.pre), AV.v (.int .i64 n.enc), AV.v (.int .i64 n.exp), AV.v (.int .i64 n.lapsed), AV.v (.int .i64 n.carried)] := by
          rw [hcd, (row_elem hu2 (cs := flat xs) (by rw [List.take_of_length_le (by omega)]) j hlt).1, hx]; rfl
        have r2 : 12 ≤ (cs.drop (j * 12)).length := by rw [List.length_drop]; omega
        have hst : stay p (xs.take (j + 1)) = stay p (xs.take j) ++ if p (.agg [AV.v (.int .i64 n.year), AV.v (.int .i64 n.id), AV.v (.int .i64 n.parent), AV.v (.int .i64 n.fund), AV.v (.int .i64 n.obj), AV.v (.bool n.abs), AV.v (.int .i64 n.limit), AV.v (.int .i64 n.pre), AV.v (.int .i64 n.enc), AV.v (.int .i64 n.exp), AV.v (.int .i64 n.lapsed), AV.v (.int .i64 n.carried)]) = true then [] else [.agg [AV.v (.int .i64 n.year), AV.v (.int .i64 n.id), AV.v (.int .i64 n.parent), AV.v (.int .i64 n.fund), AV.v (.int .i64 n.obj), AV.v (.bool n.abs), AV.v (.int .i64 n.limit), AV.v (.int .i64 n.pre), AV.v (.int .i64 n.enc), AV.v (.int .i64 n.exp), AV.v (.int .i64 n.lapsed), AV.v (.int .i64 n.carried)]] := by
          rw [stay, List.take_succ_eq_append_getElem hlt, List.filter_append, List.filter_cons, List.filter_nil, hx]
          cases p (.agg [AV.v (.int .i64 n.year), AV.v (.int .i64 n.id), AV.v (.int .i64 n.parent), AV.v (.int .i64 n.fund), AV.v (.int .i64 n.obj), AV.v (.bool n.abs), AV.v (.int .i64 n.limit), AV.v (.int .i64 n.pre), AV.v (.int .i64 n.enc), AV.v (.int .i64 n.exp), AV.v (.int .i64 n.lapsed), AV.v (.int .i64 n.carried)]) <;> simp
        have hnext : cs.drop ((j + 1) * 12) = (flat xs).drop ((j + 1) * 12) := by
          have := congrArg (List.drop 12) hcd
          rw [List.drop_drop, List.drop_drop] at this
          rw [show (j + 1) * 12 = j * 12 + 12 by omega]; exact this
        simp -dsimp only [Vm.E, List.lookup, Nat.reduceAdd, Nat.reduceBEq, Int.reduceBNe, Int.reduceBEq, Bool.true_beq, Bool.false_beq, es23, as23]
        refine idxL_intro (by omega) (by omega) ?_
        simp -dsimp only [Vm.E, List.lookup, Nat.reduceAdd, Nat.reduceBEq, Int.reduceBNe, Int.reduceBEq, Bool.true_beq, Bool.false_beq, Vm.S, Nat.reduceLeDiff, heap_last, of25, Int.toNat_natCast, r1, r2, al25, sz25]
        refine call_one (S := S) (hsub _ _ hg) _ GaL.rfl (hS cs _ hmem _ ?_)
        cases hpi2 : p (.agg [AV.v (.int .i64 n.year), AV.v (.int .i64 n.id), AV.v (.int .i64 n.parent), AV.v (.int .i64 n.fund), AV.v (.int .i64 n.obj), AV.v (.bool n.abs), AV.v (.int .i64 n.limit), AV.v (.int .i64 n.pre), AV.v (.int .i64 n.enc), AV.v (.int .i64 n.exp), AV.v (.int .i64 n.lapsed), AV.v (.int .i64 n.carried)])
        · rw [hpi2] at hst
          simp -dsimp only [Vm.E, List.lookup, Nat.reduceAdd, Nat.reduceBEq, Int.reduceBNe, Int.reduceBEq, Bool.true_beq, Bool.false_beq, Vm.S, Nat.reduceLeDiff, of25, es23, as23]
          refine idxL_intro (by omega) (by omega) ?_
          simp -dsimp only [Vm.E, List.lookup, Nat.reduceAdd, Nat.reduceBEq, Int.reduceBNe, Int.reduceBEq, Bool.true_beq, Bool.false_beq, sz25, Int.toNat_natCast]
          refine store_row cs (heap_last _ _) rfl rfl (by omega) ?_
          simp -dsimp only [Vm.E, List.lookup, Nat.reduceAdd, Nat.reduceBEq, Int.reduceBNe, Int.reduceBEq, Bool.true_beq, Bool.false_beq, heap_setLast, hw, hw2]
          have hst' : stay p (xs.take (j + 1)) = stay p (xs.take j) ++ [.agg [AV.v (.int .i64 n.year), AV.v (.int .i64 n.id), AV.v (.int .i64 n.parent), AV.v (.int .i64 n.fund), AV.v (.int .i64 n.obj), AV.v (.bool n.abs), AV.v (.int .i64 n.limit), AV.v (.int .i64 n.pre), AV.v (.int .i64 n.enc), AV.v (.int .i64 n.exp), AV.v (.int .i64 n.lapsed), AV.v (.int .i64 n.carried)]] := by simpa using hst
          have hpl : (putCells cs (i * 12) [AV.v (.int .i64 n.year), AV.v (.int .i64 n.id), AV.v (.int .i64 n.parent), AV.v (.int .i64 n.fund), AV.v (.int .i64 n.obj), AV.v (.bool n.abs), AV.v (.int .i64 n.limit), AV.v (.int .i64 n.pre), AV.v (.int .i64 n.enc), AV.v (.int .i64 n.exp), AV.v (.int .i64 n.lapsed), AV.v (.int .i64 n.carried)]).length = cs.length := by simp [putCells]; omega
          refine kept_intro ⟨xs.length - (j + 1), by omega, _, le_mk [(0, .osl h0.length 0 xs.length c), (1, .clo g caps), (5, .v (.int .i64 (i + 1 : Nat))), (6, .v (.int .i64 (j + 1 : Nat)))] ?_,
            j + 1, i + 1, putCells cs (i * 12) [AV.v (.int .i64 n.year), AV.v (.int .i64 n.id), AV.v (.int .i64 n.parent), AV.v (.int .i64 n.fund), AV.v (.int .i64 n.obj), AV.v (.bool n.abs), AV.v (.int .i64 n.limit), AV.v (.int .i64 n.pre), AV.v (.int .i64 n.enc), AV.v (.int .i64 n.exp), AV.v (.int .i64 n.lapsed), AV.v (.int .i64 n.carried)], by omega, by omega, by rw [hst', List.length_append]; simp; omega, by rw [hpl]; exact hcsl, ?_, ?_, rfl, rfl⟩
          · simp only [List.forall_mem_cons, List.not_mem_nil, false_imp_iff, implies_true, and_true]
            simp -dsimp only [Vm.E, List.lookup, Nat.reduceAdd, Nat.reduceBEq, Int.reduceBNe, Int.reduceBEq, Bool.true_beq, Bool.false_beq]
            exact ⟨.refl _, .refl _, .refl _, .refl _⟩
          · rw [hst', flat_append, ← hct]
            simp only [putCells]
            rw [show (i + 1) * 12 = (cs.take (i * 12) ++ [AV.v (.int .i64 n.year), AV.v (.int .i64 n.id), AV.v (.int .i64 n.parent), AV.v (.int .i64 n.fund), AV.v (.int .i64 n.obj), AV.v (.bool n.abs), AV.v (.int .i64 n.limit), AV.v (.int .i64 n.pre), AV.v (.int .i64 n.enc), AV.v (.int .i64 n.exp), AV.v (.int .i64 n.lapsed), AV.v (.int .i64 n.carried)]).length by simp [List.length_take]; omega, List.take_left']
            · simp [flat, AV.cells]
            · rfl
          · rw [← hnext]
            exact drop_put (by simp only [List.length_cons, List.length_nil]; omega) (by omega)
        · rw [hpi2] at hst
          have hst' : stay p (xs.take (j + 1)) = stay p (xs.take j) := by simpa using hst
          simp -dsimp only [Vm.E, List.lookup, Nat.reduceAdd, Nat.reduceBEq, Int.reduceBNe, Int.reduceBEq, Bool.true_beq, Bool.false_beq, hw]
          refine kept_intro ⟨xs.length - (j + 1), by omega, _, le_mk [(0, .osl h0.length 0 xs.length c), (1, .clo g caps), (5, .v (.int .i64 i)), (6, .v (.int .i64 (j + 1 : Nat)))] ?_,
            j + 1, i, cs, by omega, by omega, by rw [hst']; exact hil2, hcsl, by rw [hst']; exact hct, hnext, rfl, rfl⟩
          simp only [List.forall_mem_cons, List.not_mem_nil, false_imp_iff, implies_true, and_true]
          simp -dsimp only [Vm.E, List.lookup, Nat.reduceAdd, Nat.reduceBEq, Int.reduceBNe, Int.reduceBEq, Bool.true_beq, Bool.false_beq]
          exact ⟨.refl _, .refl _, .refl _, .refl _⟩
      · have hge : ¬ j < xs.length := by have := of_decide_eq_false hcc; omega
        have hjx : j = xs.length := by omega
        rw [hjx, List.take_length] at hil2 hct
        have hfin : ∀ cs', cs'.take (i * 12) = cs.take (i * 12) → Q (.osl h0.length 0 i c) (h0 ++ [.row e (c * 12) cs']) := fun cs' hcs' => by
          have := hq cs' (by rw [← hil2, hcs', hct])
          rw [← hil2] at this; exact this
        have hzc : plain (.agg #[.int .i64 0, .int .i64 0, .int .i64 0, .int .i64 0, .int .i64 0, .bool false, .int .i64 0, .int .i64 0, .int .i64 0, .int .i64 0, .int .i64 0, .int .i64 0]) = true ∨ ∃ zs, Value.agg #[.int .i64 0, .int .i64 0, .int .i64 0, .int .i64 0, .int .i64 0, .bool false, .int .i64 0, .int .i64 0, .int .i64 0, .int .i64 0, .int .i64 0, .int .i64 0] = .agg zs ∧ zs.all plain = true := .inr ⟨_, rfl, by simp [plain]⟩
        simp -dsimp only [Vm.E, List.lookup, Nat.reduceAdd, Nat.reduceBEq, Int.reduceBNe, Int.reduceBEq, Bool.true_beq, Bool.false_beq]
        refine sliceO_intro es23 (l := i) (m := xs.length) rfl rfl (by omega) (by omega) (by omega) (fun hlc => ?_) (fun hlc => ?_)
        · simp -dsimp only [Vm.E, List.lookup, Nat.reduceAdd, Nat.reduceBEq, Int.reduceBNe, Int.reduceBEq, Bool.true_beq, Bool.false_beq]
          refine clearS_intro cs Tryz.underlying23 z25 hzc (heap_last _ _) (by simp [Value.cells]; omega) ?_
          simp -dsimp only [Vm.E, List.lookup, Nat.reduceAdd, Nat.reduceBEq, Int.reduceBNe, Int.reduceBEq, Bool.true_beq, Bool.false_beq, heap_setLast]
          refine sliceO_intro es23 (l := 0) (m := i) rfl rfl (by omega) (by omega) (by omega) (fun _ => ?_) (fun hlc => absurd (.inl rfl) hlc)
          simp -dsimp only [Vm.E, List.lookup, Nat.reduceAdd, Nat.reduceBEq, Int.reduceBNe, Int.reduceBEq, Bool.true_beq, Bool.false_beq, Tryz.results132]
          have := hfin (putCells cs ((i : Int).toNat * 12) (List.replicate ((((xs.length : Nat) : Int).toNat - (i : Int).toNat) * 12) .any)) (by
            simp only [putCells, Int.toNat_natCast]
            rw [List.append_assoc, List.take_append_of_le_length (by rw [List.length_take]; omega), List.take_take, Nat.min_self])
          simpa [Value.cells] using this
        · simp -dsimp only [Vm.E, List.lookup, Nat.reduceAdd, Nat.reduceBEq, Int.reduceBNe, Int.reduceBEq, Bool.true_beq, Bool.false_beq]
          refine clearX_nil Tryz.underlying23 ?_
          simp -dsimp only [Vm.E, List.lookup, Nat.reduceAdd, Nat.reduceBEq, Int.reduceBNe, Int.reduceBEq, Bool.true_beq, Bool.false_beq]
          refine sliceO_intro es23 (l := 0) (m := i) rfl rfl (by omega) (by omega) (by omega) (fun _ => ?_) (fun hlc => absurd (.inl rfl) hlc)
          simp -dsimp only [Vm.E, List.lookup, Nat.reduceAdd, Nat.reduceBEq, Int.reduceBNe, Int.reduceBEq, Bool.true_beq, Bool.false_beq, Tryz.results132]
          have := hfin cs rfl
          simpa using this
  · have d1 : ixOf p xs = -1 := by simpa using c1
    have hst := stay_all d1
    rw [d1]
    have := hq (flat xs) (by rw [hst, List.take_of_length_le (by omega)])
    rw [hst] at this
    simp -dsimp only [Vm.E, List.lookup, Nat.reduceAdd, Nat.reduceBEq, Int.reduceBNe, Int.reduceBEq, Bool.true_beq, Bool.false_beq, beq_self_eq_true, Tryz.results132]
    exact this
def delPNilSpecNd : Vm.Spec := fun args h Q => ∃ g caps, args = [.v (.slice none 0 0), .clo g caps] ∧ Q (.v (.slice none 0 0)) h
theorem does_delPNilNd {T T2 : Tab} (hT : Good T) (hg0 : T 192 = some (orS (ixPSpecNd T2) ixPNilSpecNd)) : Does Tryz.prog 132 delPNilSpecNd := by
  refine does_of_awp hT Tryz.func132 rfl (by decide +kernel) (by decide +kernel) ?_
  rintro args h Q ⟨g, caps, rfl, hq⟩
  refine ⟨by simp [Tryz.f132], ?_⟩
  rw [awpFunc_some (by rfl)]
  simp -dsimp only [Vm.E, List.lookup, Nat.reduceAdd, Nat.reduceBEq, Int.reduceBNe, Int.reduceBEq, Bool.true_beq, Bool.false_beq]
  refine call_one (S := orS (ixPSpecNd T2) ixPNilSpecNd) hg0 _ GaL.rfl (.inr ⟨g, caps, rfl, ?_⟩)
  simp -dsimp only [Vm.E, List.lookup, Nat.reduceAdd, Nat.reduceBEq, Int.reduceBNe, Int.reduceBEq, Bool.true_beq, Bool.false_beq, beq_self_eq_true, Tryz.results132]
  exact hq
end Go.Proofs.Lx
/- The tree of nodes: those of a year, those below one. -/
set_option linter.unusedSimpArgs false
set_option linter.unusedVariables false
namespace Go.Proofs.Lx
open Go.Vm
attribute [local irreducible] awpArr awpBin awpMake awpAppend awpCvX awpStrOf awpBinX awpSlice awpBS awpStore awpAlloc awpCopy awpIndex awpDraw awpIdxX awpFa awpField awpLookup awpUpdate awpDelete awpClear awpRange awpNext awpEntry awpBuild awpClearS awpIdxL
theorem filterMap_step {α β : Type} (g : α → Option β) (l : List α) (i : Nat) (hi : i < l.length) : (l.take (i + 1)).filterMap g = (l.take i).filterMap g ++ (g l[i]).toList := by
  rw [List.take_succ_eq_append_getElem hi, List.filterMap_append]
  cases h : g l[i] <;> simp [h]
theorem filterMap_le {α β : Type} (g : α → Option β) (l : List α) (i : Nat) : ((l.take i).filterMap g).length ≤ i := Nat.le_trans (List.length_filterMap_le ..) (by rw [List.length_take]; omega)
theorem key1_length (t : UInt8) (a : Int) : (keyOf t [a]).length = 5 := by simp [keyOf, packs, be_length]
/-- The node of a pair, if it is of the year. -/
def inYear (year : Int) (p : KV) : Option Nd := match nodeOf p.1 p.2 with
  | some n => if n.year = year then some n else none
  | none => none
abbrev allN (year : Int) (l : List KV) : List Nd := l.filterMap (inYear year)
def ballSpec : Vm.Spec := fun args h Q => ∃ (V : VId) (f : Fun) (year : Int), args = [.agg [.ptr V.iv 0, .v (.int .i64 year)]] ∧ isView h V f ∧ f.n ≤ 536870912 ∧
  ∀ l h', ScanIs f (keyOf 78 [year]) l → l.length ≤ 2 * f.n → isView h' V f → Same h h' [] → Q (.own true 25 12 ((allN year l).map ndAv)) h'
set_option maxRecDepth 20000 in
set_option maxHeartbeats 1000000 in
theorem does_ball : Does Tryz.prog 134 ballSpec := by
  refine does_of_awp (good_cons does_key (good_cons does_scan (good_cons does_nodeOf good_nil))) Tryz.func134 rfl (by decide +kernel) (by decide +kernel) ?_
  rintro args h Q ⟨V, f, year, rfl, hV, hn, hq⟩
  refine ⟨by simp [Tryz.f134], ?_⟩
  rw [awpFunc_some (by rfl)]
  simp -dsimp only [Vm.E, List.lookup, Nat.reduceAdd, Nat.reduceBEq, Int.reduceBNe, Int.reduceBEq, Bool.true_beq, Bool.false_beq, Vm.S, Nat.reduceLeDiff, q134]
  refine draw_cont [1] (.take 0 (.take 1 (.take 2 (.take 3 (.take 8 (.alt 4 (.alt 5 (.alt 6 (.take 7 (.done)) .stop) .stop) .stop)))))) (fun s h' => ∃ l, (ScanIs f (keyOf 78 [year]) l ∧ l.length ≤ 2 * f.n ∧ isView h' V f ∧ Same h h' []) ∧ s 1 = .eptr [.ptr V.iv 0, .v (.int .i64 year)] ∧ s 3 = .v (.slice none 0 0) ∧ s 14 = .own true 47 2 (l.map kvAv) ∧ s 15 = .v (.int .i64 l.length) ∧ s 16 = .v (.int .i64 0)) (by kernel_rfl) (by kernel_rfl) (by kernel_rfl) (by decide) ?_ ?_
  · simp -dsimp only [Vm.E, List.lookup, Nat.reduceAdd, Nat.reduceBEq, Int.reduceBNe, Int.reduceBEq, Bool.true_beq, Bool.false_beq, Vm.S, Nat.reduceLeDiff, q134]
    refine bs_intro zr3 (by decide) (by decide) rfl rfl (by simp [solid, AV.cells]) ?_
    simp -dsimp only [Vm.E, List.lookup, Nat.reduceAdd, Nat.reduceBEq, Int.reduceBNe, Int.reduceBEq, Bool.true_beq, Bool.false_beq, Vm.S, Nat.reduceLeDiff, q134]
    refine call_one (S := keySpec) rfl _ GaL.rfl ⟨78, [year], by simp, rfl, ?_⟩
    simp -dsimp only [Vm.E, List.lookup, Nat.reduceAdd, Nat.reduceBEq, Int.reduceBNe, Int.reduceBEq, Bool.true_beq, Bool.false_beq, Vm.S, Nat.reduceLeDiff, q134]
    refine call_one (S := scanSpec) rfl _ GaL.rfl ⟨V, f, keyOf 78 [year], rfl, by rw [key1_length]; decide, hV, hn, fun l h1 hsc hln hV1 hs1 => ?_⟩
    simp -dsimp only [Vm.E, List.lookup, Nat.reduceAdd, Nat.reduceBEq, Int.reduceBNe, Int.reduceBEq, Bool.true_beq, Bool.false_beq, Vm.S, Nat.reduceLeDiff, q134]
    refine ⟨l, ⟨hsc, hln, hV1, hs1⟩, ?_⟩
    repeat' first | rfl | exact True.intro | refine And.intro ?_ ?_
  · rintro s h1 ⟨l, ⟨hsc, hln, hV1, hs1⟩, e1, e3, e14, e15, e16⟩
    simp -dsimp only [Vm.E, List.lookup, Nat.reduceAdd, Nat.reduceBEq, Int.reduceBNe, Int.reduceBEq, Bool.true_beq, Bool.false_beq, Vm.S, Nat.reduceLeDiff, q134, e1, e3, e14, e15, e16]
    refine awp_loop (fun m s h' => ∃ i : Nat, i + m = l.length ∧ h' = h1 ∧ s = mk [(1, .eptr [.ptr V.iv 0, .v (.int .i64 year)]), (3, .own true 25 12 ((allN year (l.take i)).map ndAv)), (14, .own true 47 2 (l.map kvAv)), (15, .v (.int .i64 l.length)), (16, .v (.int .i64 i))])
      l.length _ (le_mk _ ?_) ⟨0, by omega, rfl, rfl⟩ ?_
    · simp only [List.forall_mem_cons, List.not_mem_nil, false_imp_iff, implies_true, and_true, e1, e3, e14, e15, e16]
      try simp -dsimp only [Vm.E, List.lookup, Nat.reduceAdd, Nat.reduceBEq, Int.reduceBNe, Int.reduceBEq, Bool.true_beq, Bool.false_beq, Vm.S, Nat.reduceLeDiff, q134, e1, e3, e14, e15, e16]
      repeat' first | exact Fg.refl _ | exact Fg.nil _ _ _ (by decide) | refine And.intro ?_ ?_
    · rintro m s h' ⟨i, hi, rfl, rfl⟩
      simp -dsimp only [Vm.E, List.lookup, Nat.reduceAdd, Nat.reduceBEq, Int.reduceBNe, Int.reduceBEq, Bool.true_beq, Bool.false_beq, Vm.S, Nat.reduceLeDiff, q134]
      refine cond_intro (fun hcc => ?_) (fun hcc => ?_)
      · have hlt : i < l.length := by have := of_decide_eq_true hcc; omega
        have hw : IntKind.i64.wrap ((i : Int) + 1) = ((i + 1 : Nat) : Int) := by rw [wrap_i64 (by omega) (by omega)]; simp
        have hget : (l.map kvAv)[i]? = some (kvAv l[i]) := by simp [hlt]
        have est := filterMap_step (inYear year) l i hlt
        have hal : (allN year (l.take i)).length ≤ i := filterMap_le (inYear year) l i
        have hin := ((hsc.2 l[i].1 l[i].2).1 (List.getElem_mem hlt)).1
        have hkl : l[i].1.length ≤ 32 := hV.klen hin
        have hvl : l[i].2.length ≤ 120 := hV.len _ _ hin
        clear hin
        generalize l[i] = p at hget est hkl hvl
        obtain ⟨k, v⟩ := p
        simp only at hkl hvl
        have e0 : inYear year (k, v) = match nodeOf k v with | some n => if n.year = year then some n else none | none => none := rfl
        simp -dsimp only [Vm.E, List.lookup, Nat.reduceAdd, Nat.reduceBEq, Int.reduceBNe, Int.reduceBEq, Bool.true_beq, Bool.false_beq, Vm.S, Nat.reduceLeDiff, q134]
        refine idxO_intro (by omega) (by simp; omega) ?_
        simp -dsimp only [Vm.E, List.lookup, Nat.reduceAdd, Nat.reduceBEq, Int.reduceBNe, Int.reduceBEq, Bool.true_beq, Bool.false_beq, Vm.S, Nat.reduceLeDiff, q134, Int.toNat_natCast]
        refine eltA_intro hget ?_
        simp only [kvAv]
        simp -dsimp only [Vm.E, List.lookup, Nat.reduceAdd, Nat.reduceBEq, Int.reduceBNe, Int.reduceBEq, Bool.true_beq, Bool.false_beq, Vm.S, Nat.reduceLeDiff, q134, AV.cells, List.drop_zero]
        refine call_one (S := nodeOfSpec) rfl _ GaL.rfl ⟨k, v, by omega, by omega, rfl, fun n hno => ?_, fun hno => ?_⟩
        · rw [hno] at e0
          simp only at e0
          simp only [ndCells]
          simp -dsimp only [Vm.E, List.lookup, Nat.reduceAdd, Nat.reduceBEq, Int.reduceBNe, Int.reduceBEq, Bool.true_beq, Bool.false_beq, Vm.S, Nat.reduceLeDiff, q134]
          cases c1 : (n.year == year)
          · have d1 : ¬ n.year = year := by simpa using c1
            rw [if_neg d1] at e0
            rw [e0] at est
            simp -dsimp only [Vm.E, List.lookup, Nat.reduceAdd, Nat.reduceBEq, Int.reduceBNe, Int.reduceBEq, Bool.true_beq, Bool.false_beq, Vm.S, Nat.reduceLeDiff, q134]
            refine kept_intro ⟨l.length - (i + 1), by omega, _, le_mk [(1, .eptr [.ptr V.iv 0, .v (.int .i64 year)]), (3, .own true 25 12 ((allN year (l.take (i + 1))).map ndAv)), (14, .own true 47 2 (l.map kvAv)), (15, .v (.int .i64 l.length)), (16, .v (.int .i64 (i + 1 : Nat)))] ?_, i + 1, by omega, rfl, rfl⟩
            simp only [List.forall_mem_cons, List.not_mem_nil, false_imp_iff, implies_true, and_true, hw, est, Option.toList, List.append_nil]
            try simp -dsimp only [Vm.E, List.lookup, Nat.reduceAdd, Nat.reduceBEq, Int.reduceBNe, Int.reduceBEq, Bool.true_beq, Bool.false_beq, Vm.S, Nat.reduceLeDiff, q134, hw, est, Option.toList, List.append_nil]
            repeat' first | exact Fg.refl _ | exact Fg.nil _ _ _ (by decide) | refine And.intro ?_ ?_
          · have d1 : n.year = year := by simpa using c1
            rw [if_pos d1] at e0
            rw [e0] at est
            simp -dsimp only [Vm.E, List.lookup, Nat.reduceAdd, Nat.reduceBEq, Int.reduceBNe, Int.reduceBEq, Bool.true_beq, Bool.false_beq, Vm.S, Nat.reduceLeDiff, q134]
            refine bs_intro zr25 (by decide) (by decide) rfl rfl (by simp [solid, AV.cells]) ?_
            simp -dsimp only [Vm.E, List.lookup, Nat.reduceAdd, Nat.reduceBEq, Int.reduceBNe, Int.reduceBEq, Bool.true_beq, Bool.false_beq, Vm.S, Nat.reduceLeDiff, q134]
            refine app_sl Tryz.underlying23 (by simp [AV.cells]) (by simp only [List.length_map, List.length_cons, List.length_nil]; omega) ?_
            simp -dsimp only [Vm.E, List.lookup, Nat.reduceAdd, Nat.reduceBEq, Int.reduceBNe, Int.reduceBEq, Bool.true_beq, Bool.false_beq, Vm.S, Nat.reduceLeDiff, q134]
            refine kept_intro ⟨l.length - (i + 1), by omega, _, le_mk [(1, .eptr [.ptr V.iv 0, .v (.int .i64 year)]), (3, .own true 25 12 ((allN year (l.take (i + 1))).map ndAv)), (14, .own true 47 2 (l.map kvAv)), (15, .v (.int .i64 l.length)), (16, .v (.int .i64 (i + 1 : Nat)))] ?_, i + 1, by omega, rfl, rfl⟩
            simp only [List.forall_mem_cons, List.not_mem_nil, false_imp_iff, implies_true, and_true, hw, est, Option.toList, List.map_append, List.map_cons, List.map_nil, ndAv, ndCells]
            try simp -dsimp only [Vm.E, List.lookup, Nat.reduceAdd, Nat.reduceBEq, Int.reduceBNe, Int.reduceBEq, Bool.true_beq, Bool.false_beq, Vm.S, Nat.reduceLeDiff, q134, hw, est, Option.toList, List.map_append, List.map_cons, List.map_nil, ndAv, ndCells]
            repeat' first | exact Fg.refl _ | exact Fg.nil _ _ _ (by decide) | refine And.intro ?_ ?_
        · rw [hno] at e0
          simp only at e0
          rw [e0] at est
          simp only [ndCells]
          simp -dsimp only [Vm.E, List.lookup, Nat.reduceAdd, Nat.reduceBEq, Int.reduceBNe, Int.reduceBEq, Bool.true_beq, Bool.false_beq, Vm.S, Nat.reduceLeDiff, q134]
          refine kept_intro ⟨l.length - (i + 1), by omega, _, le_mk [(1, .eptr [.ptr V.iv 0, .v (.int .i64 year)]), (3, .own true 25 12 ((allN year (l.take (i + 1))).map ndAv)), (14, .own true 47 2 (l.map kvAv)), (15, .v (.int .i64 l.length)), (16, .v (.int .i64 (i + 1 : Nat)))] ?_, i + 1, by omega, rfl, rfl⟩
          simp only [List.forall_mem_cons, List.not_mem_nil, false_imp_iff, implies_true, and_true, hw, est, Option.toList, List.append_nil]
          try simp -dsimp only [Vm.E, List.lookup, Nat.reduceAdd, Nat.reduceBEq, Int.reduceBNe, Int.reduceBEq, Bool.true_beq, Bool.false_beq, Vm.S, Nat.reduceLeDiff, q134, hw, est, Option.toList, List.append_nil]
          repeat' first | exact Fg.refl _ | exact Fg.nil _ _ _ (by decide) | refine And.intro ?_ ?_
      · have hge : ¬ i < l.length := by have := of_decide_eq_false hcc; omega
        simp -dsimp only [Vm.E, List.lookup, Nat.reduceAdd, Nat.reduceBEq, Int.reduceBNe, Int.reduceBEq, Bool.true_beq, Bool.false_beq, Vm.S, Nat.reduceLeDiff, q134]
        rw [List.take_of_length_le (by omega)]
        exact hq l h' hsc hln hV1 hs1
def tallSpec : Vm.Spec := fun args h Q => ∃ (V : VId) (f : Fun) (year : Int), args = [.ptr V.iv 0, .v (.int .i64 year)] ∧ isView h V f ∧ f.n ≤ 536870912 ∧
  ∀ l h', ScanIs f (keyOf 78 [year]) l → l.length ≤ 2 * f.n → isView h' V f → Same h h' [] → Q (.own true 25 12 ((allN year l).map ndAv)) h'
theorem does_tall : Does Tryz.prog 63 tallSpec := by
  refine does_of_awp (good_cons does_ball good_nil) Tryz.func63 rfl (by decide +kernel) (by decide +kernel) ?_
  rintro args h Q ⟨V, f, year, rfl, hV, hn, hq⟩
  refine ⟨by simp [Tryz.f63], ?_⟩
  rw [awpFunc_some (by rfl)]
  simp -dsimp only [Vm.E, List.lookup, Nat.reduceAdd, Nat.reduceBEq, Int.reduceBNe, Int.reduceBEq, Bool.true_beq, Bool.false_beq, Vm.S, Nat.reduceLeDiff, q63]
  refine call_one (S := ballSpec) rfl _ GaL.rfl ⟨V, f, year, rfl, hV, hn, fun l h1 hsc hln hV1 hs1 => ?_⟩
  simp -dsimp only [Vm.E, List.lookup, Nat.reduceAdd, Nat.reduceBEq, Int.reduceBNe, Int.reduceBEq, Bool.true_beq, Bool.false_beq, Vm.S, Nat.reduceLeDiff, q63]
  exact hq l h1 hsc hln hV1 hs1
def tgetSpec : Vm.Spec := fun args h Q => ∃ (V : VId) (f : Fun) (year id : Int), args = [.ptr V.iv 0, .v (.int .i64 year), .v (.int .i64 id)] ∧ isView h V f ∧
  (∀ n, nodeAt f year id = some n → Q (.tup [.agg (ndCells n), .v (.bool true)]) h) ∧ (nodeAt f year id = none → Q (.tup [.agg (ndCells .zero), .v (.bool false)]) h)
theorem does_tget : Does Tryz.prog 15 tgetSpec := by
  refine does_of_awp (good_cons does_tnode good_nil) Tryz.func15 rfl (by decide +kernel) (by decide +kernel) ?_
  rintro args h Q ⟨V, f, year, id, rfl, hV, hq1, hq2⟩
  refine ⟨by simp [Tryz.f15], ?_⟩
  rw [awpFunc_some (by rfl)]
  simp -dsimp only [Vm.E, List.lookup, Nat.reduceAdd, Nat.reduceBEq, Int.reduceBNe, Int.reduceBEq, Bool.true_beq, Bool.false_beq, Vm.S, Nat.reduceLeDiff, q15]
  refine call_one (S := tnodeSpec) rfl _ GaL.rfl ⟨V, f, year, id, rfl, hV, fun n hno => ?_, fun hno => ?_⟩
  · simp only [ndCells]
    simp -dsimp only [Vm.E, List.lookup, Nat.reduceAdd, Nat.reduceBEq, Int.reduceBNe, Int.reduceBEq, Bool.true_beq, Bool.false_beq, Vm.S, Nat.reduceLeDiff, q15]
    exact hq1 n hno
  · simp only [ndCells]
    simp -dsimp only [Vm.E, List.lookup, Nat.reduceAdd, Nat.reduceBEq, Int.reduceBNe, Int.reduceBEq, Bool.true_beq, Bool.false_beq, Vm.S, Nat.reduceLeDiff, q15]
    exact hq2 hno
def kidAskSpec : Vm.Spec := fun args h Q => ∃ (n : Nd) (o : Nat) (id : Int), args = [.agg (ndCells n), .ptr o 0] ∧ h[o]? = some (.cells [.v (.int .i64 id)]) ∧ Q (.v (.bool (n.parent != id))) h
theorem does_kidAsk : Does Tryz.prog 133 kidAskSpec := by
  refine does_of_awp good_nil Tryz.func133 rfl (by decide +kernel) (by decide +kernel) ?_
  rintro args h Q ⟨n, o, id, rfl, ho, hq⟩
  refine ⟨by simp [Tryz.f133], ?_⟩
  rw [awpFunc_some (by rfl)]
  simp only [ndCells]
  simp -dsimp only [Vm.E, List.lookup, Nat.reduceAdd, Nat.reduceBEq, Int.reduceBNe, Int.reduceBEq, Bool.true_beq, Bool.false_beq, Vm.S, Nat.reduceLeDiff, q133, ho]
  exact hq
def kidT : Tab := tab [(133, kidAskSpec)]
def delNdT : Tab := tab [(192, orS (ixPSpecNd kidT) ixPNilSpecNd), (133, kidAskSpec)]
theorem good_kidT : Good kidT := good_cons does_kidAsk good_nil
theorem good_delNdT : Good delNdT := good_cons (does_or (does_ixPNd good_kidT) does_ixPNilNd) (good_cons does_kidAsk good_nil)
theorem kid_sub : ∀ g S, kidT g = some S → delNdT g = some S := fun g S h => by
  unfold kidT delNdT tab at *
  simp only [List.lookup] at h ⊢
  split at h
  · rename_i e
    have hg : g = 133 := by simpa using e
    subst hg; cases h; rfl
  · cases h
theorem does_delNd : Does Tryz.prog 132 (orS (delPSpecNd kidT) delPNilSpecNd) :=
  does_or (does_delPNd good_delNdT kid_sub rfl) (does_delPNilNd (T2 := kidT) good_delNdT rfl)
def kidP (id : Int) (x : AV) : Bool := match x with
  | .agg (_ :: _ :: .v (.int _ p) :: _) => p != id
  | _ => false
theorem stay_nd (id : Int) (l : List Nd) : stay (kidP id) (l.map ndAv) = (l.filter fun n => n.parent == id).map ndAv := by
  rw [stay, List.filter_map]
  congr 1
  apply List.filter_congr
  intro n _
  simp [Function.comp, kidP, ndAv, ndCells, bne]
abbrev kidsN (year id : Int) (l : List KV) : List Nd := (allN year l).filter fun n => n.parent == id
def tkidsSpec : Vm.Spec := fun args h Q => ∃ (V : VId) (f : Fun) (year id : Int), args = [.ptr V.iv 0, .v (.int .i64 year), .v (.int .i64 id)] ∧ isView h V f ∧ f.n ≤ 536870912 ∧
  ∀ l h', ScanIs f (keyOf 78 [year]) l → l.length ≤ 2 * f.n → isView h' V f → Same h h' [] → Q (.own true 25 12 ((kidsN year id l).map ndAv)) h'
set_option maxRecDepth 20000 in
theorem does_tkids : Does Tryz.prog 60 tkidsSpec := by
  refine does_of_awp (good_cons does_tall (good_cons does_delNd good_nil)) Tryz.func60 rfl (by decide +kernel) (by decide +kernel) ?_
  rintro args h Q ⟨V, f, year, id, rfl, hV, hn, hq⟩
  refine ⟨by simp [Tryz.f60], ?_⟩
  rw [awpFunc_some (by rfl)]
  simp -dsimp only [Vm.E, List.lookup, Nat.reduceAdd, Nat.reduceBEq, Int.reduceBNe, Int.reduceBEq, Bool.true_beq, Bool.false_beq, Vm.S, Nat.reduceLeDiff, q60]
  refine call_one (S := tallSpec) rfl _ GaL.rfl ⟨V, f, year, rfl, hV, hn, fun l h1 hsc hln hV1 hs1 => ?_⟩
  simp -dsimp only [Vm.E, List.lookup, Nat.reduceAdd, Nat.reduceBEq, Int.reduceBNe, Int.reduceBEq, Bool.true_beq, Bool.false_beq, Vm.S, Nat.reduceLeDiff, q60, awpOp_mf]
  refine call_in _ _ _ ?_
  simp -dsimp only [Vm.E, List.lookup, Nat.reduceAdd, Nat.reduceBEq, Int.reduceBNe, Int.reduceBEq, Bool.true_beq, Bool.false_beq, Vm.S, Nat.reduceLeDiff, q60, callI_eq, ownSl_own, ownSl_alias]
  have hsame := Same.more h1 [AObj.cells [.v (.int .i64 id)]]
  have hV2 := hV1.more [AObj.cells [.v (.int .i64 id)]]
  have g0 := heap_last h1 (AObj.cells [.v (.int .i64 id)])
  have hal : (allN year l).length ≤ l.length := List.length_filterMap_le (inYear year) l
  generalize h1 ++ [AObj.cells [.v (.int .i64 id)]] = hh at *
  refine callI_ret (S := orS (delPSpecNd kidT) delPNilSpecNd) (xs' := stay (kidP id) ((allN year l).map ndAv)) rfl (fun x hx => (List.mem_filter.1 hx).1) (fun hx => ⟨by rw [hx]; rfl, fun Q' hq' => .inr ⟨_, _, rfl, hq'⟩⟩)
    (fun c hc Q' hq' => .inl ⟨133, [.ptr h1.length 0], kidAskSpec, kidP id, (allN year l).map ndAv, hh, c, 25, rfl, rfl, rfl, hc, fun x hx => ?_, by rw [List.length_map]; omega, fun cs x hx Q2 hq2 => ?_, hq'⟩) ?_
  · obtain ⟨n, -, rfl⟩ := List.mem_map.1 hx
    exact ⟨n, rfl⟩
  · obtain ⟨n, -, rfl⟩ := List.mem_map.1 hx
    exact ⟨n, h1.length, id, rfl, heap_get _ g0, hq2⟩
  rw [stay_nd]
  simp -dsimp only [Vm.E, List.lookup, Nat.reduceAdd, Nat.reduceBEq, Int.reduceBNe, Int.reduceBEq, Bool.true_beq, Bool.false_beq, Vm.S, Nat.reduceLeDiff, q60]
  exact hq l hh hsc hln hV2 ⟨Nat.le_trans hs1.1 hsame.1, fun i hi hni => (hsame.2 i (Nat.lt_of_lt_of_le hi hs1.1) (by simp)).trans (hs1.2 i hi hni)⟩
abbrev w64s (l : List Int) : Int := l.foldl (fun a b => w64 (a + b)) 0
def givenSpec : Vm.Spec := fun args h Q => ∃ l : List Nd, l.length ≤ 9223372036854775807 ∧ args = [.sl 12 (l.map ndAv)] ∧ Q (.v (.int .i64 (w64s (l.map (·.limit))))) h
theorem does_given : Does Tryz.prog 65 givenSpec := by
  refine does_of_awp good_nil Tryz.func65 rfl (by decide +kernel) (by decide +kernel) ?_
  rintro args h Q ⟨l, hl, rfl, hq⟩
  refine ⟨by simp [Tryz.f65], ?_⟩
  rw [awpFunc_some (by rfl)]
  simp -dsimp only [Vm.E, List.lookup, Nat.reduceAdd, Nat.reduceBEq, Int.reduceBNe, Int.reduceBEq, Bool.true_beq, Bool.false_beq, Vm.S, Nat.reduceLeDiff, q65]
  refine awp_loop (fun m s h' => ∃ i : Nat, i + m = l.length ∧ h' = h ∧ s = mk [(3, .v (.int .i64 (w64s ((l.take i).map (·.limit))))), (6, .sl 12 (l.map ndAv)), (7, .v (.int .i64 l.length)), (8, .v (.int .i64 i))])
    l.length _ (le_mk _ ?_) ⟨0, by omega, rfl, rfl⟩ ?_
  · simp only [List.forall_mem_cons, List.not_mem_nil, false_imp_iff, implies_true, and_true]
    try simp -dsimp only [Vm.E, List.lookup, Nat.reduceAdd, Nat.reduceBEq, Int.reduceBNe, Int.reduceBEq, Bool.true_beq, Bool.false_beq, Vm.S, Nat.reduceLeDiff, q65]
    repeat' first | exact Fg.refl _ | exact Fg.nil _ _ _ (by decide) | refine And.intro ?_ ?_
  · rintro m s h' ⟨i, hi, rfl, rfl⟩
    simp -dsimp only [Vm.E, List.lookup, Nat.reduceAdd, Nat.reduceBEq, Int.reduceBNe, Int.reduceBEq, Bool.true_beq, Bool.false_beq, Vm.S, Nat.reduceLeDiff, q65]
    refine cond_intro (fun hcc => ?_) (fun hcc => ?_)
    · have hlt : i < l.length := by have := of_decide_eq_true hcc; omega
      have hw : IntKind.i64.wrap ((i : Int) + 1) = ((i + 1 : Nat) : Int) := by rw [wrap_i64 (by omega) (by omega)]; simp
      have est : w64s ((l.take (i + 1)).map (·.limit)) = w64 (w64s ((l.take i).map (·.limit)) + l[i].limit) := by
        rw [List.take_succ_eq_append_getElem hlt, List.map_append, w64s, List.foldl_append]; rfl
      simp -dsimp only [Vm.E, List.lookup, Nat.reduceAdd, Nat.reduceBEq, Int.reduceBNe, Int.reduceBEq, Bool.true_beq, Bool.false_beq, Vm.S, Nat.reduceLeDiff, q65]
      refine idx_map ndAv l i hlt ?_
      generalize l[i] = n at est
      simp only [ndAv, ndCells]
      simp -dsimp only [Vm.E, List.lookup, Nat.reduceAdd, Nat.reduceBEq, Int.reduceBNe, Int.reduceBEq, Bool.true_beq, Bool.false_beq, Vm.S, Nat.reduceLeDiff, q65, AV.cells]
      refine kept_intro ⟨l.length - (i + 1), by omega, _, le_mk [(3, .v (.int .i64 (w64s ((l.take (i + 1)).map (·.limit))))), (6, .sl 12 (l.map ndAv)), (7, .v (.int .i64 l.length)), (8, .v (.int .i64 (i + 1 : Nat)))] ?_, i + 1, by omega, rfl, rfl⟩
      simp only [List.forall_mem_cons, List.not_mem_nil, false_imp_iff, implies_true, and_true, hw, est]
      try simp -dsimp only [Vm.E, List.lookup, Nat.reduceAdd, Nat.reduceBEq, Int.reduceBNe, Int.reduceBEq, Bool.true_beq, Bool.false_beq, Vm.S, Nat.reduceLeDiff, q65, hw, est]
      repeat' first | exact Fg.refl _ | exact Fg.nil _ _ _ (by decide) | refine And.intro ?_ ?_
    · have hge : ¬ i < l.length := by have := of_decide_eq_false hcc; omega
      simp -dsimp only [Vm.E, List.lookup, Nat.reduceAdd, Nat.reduceBEq, Int.reduceBNe, Int.reduceBEq, Bool.true_beq, Bool.false_beq, Vm.S, Nat.reduceLeDiff, q65]
      rw [List.take_of_length_le (by omega)]
      exact hq
end Go.Proofs.Lx
/- The law TreeEnds. -/
set_option linter.unusedSimpArgs false
set_option linter.unusedVariables false
namespace Go.Proofs.Lx
open Go.Vm
attribute [local irreducible] awpArr awpBin awpMake awpAppend awpCvX awpStrOf awpBinX awpSlice awpBS awpStore awpAlloc awpCopy awpIndex awpDraw awpIdxX awpFa awpField awpLookup awpUpdate awpDelete awpClear awpRange awpNext awpEntry awpBuild awpClearS awpIdxL
def vnewASpec : Vm.Spec := fun args h Q => args = [nilP] ∧ ∀ V h', isView h' V noF → Q (.ptr V.iv 0) h'
theorem does_vnewA : Does Tryz.prog 19 vnewASpec := does_vnew.imp (by
  rintro args h Q ⟨rfl, hq⟩
  exact ⟨rfl, hq ⟨h.length + 2, h.length, h.length + 1⟩ _ (isView_new h)⟩)
def na1 : Nd := { Nd.zero with year := 2020, id := 1, limit := 9 }
def na2 : Nd := { Nd.zero with year := 2020, id := 2, parent := 1, limit := 4 }
def naF : Fun := upd (upd noF (ndK na1) (some (ndV na1))) (ndK na2) (some (ndV na2))
def naL : List KV := tput (ndK na2) (ndV na2) (tput (ndK na1) (ndV na1) [])
theorem naT : TabIs naF naL := (TabIs.new.put _ _).put _ _
theorem na_path : pathOf naF 2020 8 2 = [na2, na1] := by kernel_rfl
theorem na_kids : kidsN 2020 1 (naL.filter fun p => (keyOf 78 [2020]).isPrefixOf p.1) = [na2] := by kernel_rfl
theorem na1_ok : na1.ok := by simp [Nd.ok, na1, Nd.zero, I64]
theorem na2_ok : na2.ok := by simp [Nd.ok, na2, Nd.zero, I64]
set_option maxRecDepth 20000 in
theorem does_law28awake : Does Tryz.prog 52 trueSpec := by
  refine does_of_awp (good_cons does_vnewA (good_cons does_tput (good_cons does_tpath (good_cons does_tkids (good_cons does_given good_nil))))) Tryz.func52 rfl (by decide +kernel) (by decide +kernel) ?_
  rintro args h Q ⟨rfl, hq⟩
  refine ⟨by simp [Tryz.f52], ?_⟩
  rw [awpFunc_some (by rfl)]
  simp -dsimp only [Vm.E, List.lookup, Nat.reduceAdd, Nat.reduceBEq, Int.reduceBNe, Int.reduceBEq, Bool.true_beq, Bool.false_beq, Vm.S, Nat.reduceLeDiff, q52]
  refine call_one (S := vnewASpec) rfl _ GaL.rfl ⟨rfl, fun V h0 hV => ?_⟩
  simp -dsimp only [Vm.E, List.lookup, Nat.reduceAdd, Nat.reduceBEq, Int.reduceBNe, Int.reduceBEq, Bool.true_beq, Bool.false_beq, Vm.S, Nat.reduceLeDiff, q52]
  refine nil_pointer Tryz.underlying26 ?_
  simp -dsimp only [Vm.E, List.lookup, Nat.reduceAdd, Nat.reduceBEq, Int.reduceBNe, Int.reduceBEq, Bool.true_beq, Bool.false_beq, Vm.S, Nat.reduceLeDiff, q52]
  refine call_one (S := tputSpec) rfl _ GaL.rfl ⟨V, _, na1, rfl, na1_ok, hV, fun h1 hV1 _ => ?_⟩
  simp -dsimp only [Vm.E, List.lookup, Nat.reduceAdd, Nat.reduceBEq, Int.reduceBNe, Int.reduceBEq, Bool.true_beq, Bool.false_beq, Vm.S, Nat.reduceLeDiff, q52]
  refine call_one (S := tputSpec) rfl _ GaL.rfl ⟨V, _, na2, rfl, na2_ok, hV1, fun h2 hV2 _ => ?_⟩
  simp -dsimp only [Vm.E, List.lookup, Nat.reduceAdd, Nat.reduceBEq, Int.reduceBNe, Int.reduceBEq, Bool.true_beq, Bool.false_beq, Vm.S, Nat.reduceLeDiff, q52]
  refine call_one (S := tpathSpec) rfl _ GaL.rfl ⟨V, naF, 2020, 2, rfl, hV2, ?_⟩
  rw [na_path]
  simp -dsimp only [Vm.E, List.lookup, Nat.reduceAdd, Nat.reduceBEq, Int.reduceBNe, Int.reduceBEq, Bool.true_beq, Bool.false_beq, Vm.S, Nat.reduceLeDiff, q52]
  refine call_one (S := tkidsSpec) rfl _ GaL.rfl ⟨V, naF, 2020, 1, rfl, hV2, by decide, fun l h3 hsc _ hV3 _ => ?_⟩
  rw [hsc.same (naT.scan _), na_kids]
  have e0 : ([na2, na1].map ndAv)[(0 : Int).toNat]? = some (ndAv na2) := rfl
  have e1 : ([na2, na1].map ndAv)[(1 : Int).toNat]? = some (ndAv na1) := rfl
  have k2 : (((2 : Nat) : Int) == 2) = true := rfl
  have k1 : (((1 : Nat) : Int) == 1) = true := rfl
  simp -dsimp only [Vm.E, List.lookup, Nat.reduceAdd, Nat.reduceBEq, Int.reduceBNe, Int.reduceBEq, Bool.true_beq, Bool.false_beq, Vm.S, Nat.reduceLeDiff, q52, List.map_cons, List.map_nil, List.length_cons, List.length_nil, k2, k1]
  refine idxO_intro (by decide) (by simp) ?_
  simp -dsimp only [Vm.E, List.lookup, Nat.reduceAdd, Nat.reduceBEq, Int.reduceBNe, Int.reduceBEq, Bool.true_beq, Bool.false_beq, Vm.S, Nat.reduceLeDiff, q52]
  refine eltA_intro (x := ndAv na1) rfl ?_
  have ec : (ndAv na1).cells = ndCells na1 := rfl
  simp only [ec, ndCells]
  simp -dsimp only [Vm.E, List.lookup, Nat.reduceAdd, Nat.reduceBEq, Int.reduceBNe, Int.reduceBEq, Bool.true_beq, Bool.false_beq, Vm.S, Nat.reduceLeDiff, q52]
  have g1 : (na1.id == 1) = true := rfl
  have g2 : w64s [na2.limit] = 4 := rfl
  simp -dsimp only [Vm.E, List.lookup, Nat.reduceAdd, Nat.reduceBEq, Int.reduceBNe, Int.reduceBEq, Bool.true_beq, Bool.false_beq, Vm.S, Nat.reduceLeDiff, q52, g1, k1, k2]
  refine call_one (S := givenSpec) rfl _ GaL.rfl ⟨[na2], by simp, rfl, ?_⟩
  simp -dsimp only [Vm.E, List.lookup, Nat.reduceAdd, Nat.reduceBEq, Int.reduceBNe, Int.reduceBEq, Bool.true_beq, Bool.false_beq, Vm.S, Nat.reduceLeDiff, q52, g2, List.map_cons, List.map_nil]
  exact hq _
theorem isA_nd {y : AV} (h : IsA (.agg [.int .i64, .int .i64, .int .i64, .int .i64, .int .i64, .bool, .int .i64, .int .i64, .int .i64, .int .i64, .int .i64, .int .i64]) y) : ∃ n : Nd, n.ok ∧ y = ndAv n := by
  simp only [IsA, IsAll] at h
  obtain ⟨ys, ⟨y1, r1, rfl, h1, y2, r2, rfl, h2, y3, r3, rfl, h3, y4, r4, rfl, h4, y5, r5, rfl, h5, y6, r6, rfl, h6, y7, r7, rfl, h7, y8, r8, rfl, h8, y9, r9, rfl, h9, y10, r10, rfl, h10, y11, r11, rfl, h11, y12, r12, rfl, h12, rfl⟩, rfl⟩ := h
  obtain ⟨a1, k1, rfl⟩ := isA_int (by simpa only [IsA] using h1)
  obtain ⟨a2, k2, rfl⟩ := isA_int (by simpa only [IsA] using h2)
  obtain ⟨a3, k3, rfl⟩ := isA_int (by simpa only [IsA] using h3)
  obtain ⟨a4, k4, rfl⟩ := isA_int (by simpa only [IsA] using h4)
  obtain ⟨a5, k5, rfl⟩ := isA_int (by simpa only [IsA] using h5)
  obtain ⟨a6, rfl⟩ := h6
  obtain ⟨a7, k7, rfl⟩ := isA_int (by simpa only [IsA] using h7)
  obtain ⟨a8, k8, rfl⟩ := isA_int (by simpa only [IsA] using h8)
  obtain ⟨a9, k9, rfl⟩ := isA_int (by simpa only [IsA] using h9)
  obtain ⟨a10, k10, rfl⟩ := isA_int (by simpa only [IsA] using h10)
  obtain ⟨a11, k11, rfl⟩ := isA_int (by simpa only [IsA] using h11)
  obtain ⟨a12, k12, rfl⟩ := isA_int (by simpa only [IsA] using h12)
  exact ⟨⟨a1, a2, a3, a4, a5, a6, a7, a8, a9, a10, a11, a12⟩, ⟨k1, k2, k3, k4, k5, k7, k8, k9, k10, k11, k12⟩, rfl⟩
end Go.Proofs.Lx
/- Balances: bal; the law BalBack. -/
set_option linter.unusedSimpArgs false
set_option linter.unusedVariables false
namespace Go.Proofs.Lx
open Go.Vm
attribute [local irreducible] awpArr awpBin awpMake awpAppend awpCvX awpStrOf awpBinX awpSlice awpBS awpStore awpAlloc awpCopy awpIndex awpDraw awpIdxX awpFa awpField awpLookup awpUpdate awpDelete awpClear awpRange awpNext awpEntry awpBuild awpClearS awpIdxL awpTree appB awpIdxO eltA treeA
def vdelSpec : Vm.Spec := fun args h Q => ∃ (V : VId) (f : Fun) (k : List UInt8), args = [.ptr V.iv 0, .sl 1 (k.map encB)] ∧ isView h V f ∧ (f k = none → Q (.v (.bool false)) h) ∧ (f k ≠ none → ∀ h', isView h' V (upd f k none) → Same h h' [V.ic] → Q (.v (.bool true)) h')
set_option maxRecDepth 20000 in
theorem does_vdel : Does Tryz.prog 179 vdelSpec := by
  refine does_of_awp (good_cons does_vgetW good_nil) Tryz.func179 rfl (by decide +kernel) (by decide +kernel) ?_
  rintro args h Q ⟨V, f, k, rfl, hV, hq1, hq2⟩
  refine ⟨by simp [Tryz.f179], ?_⟩
  rw [awpFunc_some (by rfl)]
  simp -dsimp only [Vm.E, List.lookup, Nat.reduceAdd, Nat.reduceBEq, Int.reduceBNe, Int.reduceBEq, Bool.true_beq, Bool.false_beq, Vm.S, Nat.reduceLeDiff, q179]
  refine call_one (S := vgetWSpec) rfl _ GaL.rfl ⟨V, f, k, rfl, hV, fun l hf => ?_, fun hf => ?_⟩
  · have hk32 := hV.klen hf
    obtain ⟨chg, clk, mem, clk2, h1, h2, h3, h4, h5, h6, h7⟩ := hV
    simp -dsimp only [Vm.E, List.lookup, Nat.reduceAdd, Nat.reduceBEq, Int.reduceBNe, Int.reduceBEq, Bool.true_beq, Bool.false_beq, Vm.S, Nat.reduceLeDiff, q179]
    refine draw_cont [] (.take 0 (.take 1 (.take 2 (.take 4 (.take 5 (.alt 3 (.alt 6 (.alt 7 (.done) .stop) .stop) (.alt 6 (.alt 3 (.alt 7 (.done) .stop) .stop) (.stop)))))))) (fun s h' => isView h' V (upd f k none) ∧ Same h h' [V.ic]) (by kernel_rfl) (by kernel_rfl) (by kernel_rfl) (by decide) ?_ ?_
    · repeat' first
        | with_reducible exact True.intro
        | exact ⟨isView.put (l := []) (b := true) h1 h2 h3 h4 h5 h6 h7 (.inr ⟨rfl, rfl⟩) (by simp) hk32, Same.set _ _ _⟩
        | simp -dsimp only [Vm.E, List.lookup, Nat.reduceAdd, Nat.reduceBEq, Int.reduceBNe, Int.reduceBEq, Bool.true_beq, Bool.false_beq, Vm.S, Nat.reduceLeDiff, q179, h1]
        | refine strOf_sl bt45 k rfl ?_
        | refine update_intro mt123 chg clk h2 trivial (keys_str fun e he => (h5.1 e he).1) ?_
        | refine tree_alt ?_ ?_
    · rintro s h' ⟨g1, g2⟩
      simp -dsimp only [Vm.E, List.lookup, Nat.reduceAdd, Nat.reduceBEq, Int.reduceBNe, Int.reduceBEq, Bool.true_beq, Bool.false_beq, Vm.S, Nat.reduceLeDiff, q179]
      exact hq2 (by rw [hf]; simp) h' g1 g2
  · simp -dsimp only [Vm.E, List.lookup, Nat.reduceAdd, Nat.reduceBEq, Int.reduceBNe, Int.reduceBEq, Bool.true_beq, Bool.false_beq, Vm.S, Nat.reduceLeDiff, q179]
    exact hq1 hf
def numberSpec : Vm.Spec := fun args h Q => ∃ b : List UInt8, b.length ≤ 1073741824 ∧ args = [.sl 1 (b.map encB)] ∧ Q (.tup [.v (.int .i64 (if b.length = 8 then num8 b 0 else 0)), .v (.bool (b.length == 8))]) h
theorem does_number : Does Tryz.prog 177 numberSpec := by
  refine does_of_awp (good_cons does_unpack good_nil) Tryz.func177 rfl (by decide +kernel) (by decide +kernel) ?_
  rintro args h Q ⟨b, hl, rfl, hq⟩
  refine ⟨by simp [Tryz.f177], ?_⟩
  rw [awpFunc_some (by rfl)]
  simp -dsimp only [Vm.E, List.lookup, Nat.reduceAdd, Nat.reduceBEq, Int.reduceBNe, Int.reduceBEq, Bool.true_beq, Bool.false_beq, Vm.S, Nat.reduceLeDiff, q177]
  refine call_one (S := unpackSpec) rfl _ GaL.rfl ⟨b, 1, by omega, by unfold I64; omega, rfl, ?_⟩
  unfold unpackRes
  by_cases h8 : b.length = 8
  · have c8 : (b.length == 8) = true := by simpa using h8
    rw [if_pos h8, c8] at hq
    rw [if_neg (by omega), if_neg (by simp [h8])]
    simp -dsimp only [Vm.E, List.lookup, Nat.reduceAdd, Nat.reduceBEq, Int.reduceBNe, Int.reduceBEq, Bool.true_beq, Bool.false_beq, Vm.S, Nat.reduceLeDiff, q177, bne_self_eq_false]
    refine idx_ints (numsOf b 1) 0 (by simp [numsOf]) ?_
    have e0 : (numsOf b 1)[0]'(by simp [numsOf]) = num8 b 0 := by simp [numsOf]
    simp -dsimp only [Vm.E, List.lookup, Nat.reduceAdd, Nat.reduceBEq, Int.reduceBNe, Int.reduceBEq, Bool.true_beq, Bool.false_beq, Vm.S, Nat.reduceLeDiff, q177, e0]
    exact hq
  · have c8 : (b.length == 8) = false := by simpa using h8
    rw [if_neg h8, c8] at hq
    rw [if_neg (by omega), if_pos (by omega)]
    simp -dsimp only [Vm.E, List.lookup, Nat.reduceAdd, Nat.reduceBEq, Int.reduceBNe, Int.reduceBEq, Bool.true_beq, Bool.false_beq, Vm.S, Nat.reduceLeDiff, q177]
    exact hq
def balReadSpec : Vm.Spec := fun args h Q => ∃ (V : VId) (f : Fun) (key : List UInt8), args = [.agg [.ptr V.iv 0, .sl 1 (key.map encB)]] ∧ isView h V f ∧ Q (.v (.int .i64 (readOf f key))) h
theorem does_balRead : Does Tryz.prog 117 balReadSpec := by
  refine does_of_awp (good_cons does_vgetW (good_cons does_number good_nil)) Tryz.func117 rfl (by decide +kernel) (by decide +kernel) ?_
  rintro args h Q ⟨V, f, key, rfl, hV, hq⟩
  refine ⟨by simp [Tryz.f117], ?_⟩
  rw [awpFunc_some (by rfl)]
  unfold readOf at hq
  simp -dsimp only [Vm.E, List.lookup, Nat.reduceAdd, Nat.reduceBEq, Int.reduceBNe, Int.reduceBEq, Bool.true_beq, Bool.false_beq, Vm.S, Nat.reduceLeDiff, q117]
  refine call_one (S := vgetWSpec) rfl _ GaL.rfl ⟨V, f, key, rfl, hV, fun l hf => ?_, fun hf => ?_⟩
  · have hl := hV.len _ _ hf
    rw [hf] at hq
    have hq : Q (.v (.int .i64 (if l.length = 8 then num8 l 0 else 0))) h := hq
    simp -dsimp only [Vm.E, List.lookup, Nat.reduceAdd, Nat.reduceBEq, Int.reduceBNe, Int.reduceBEq, Bool.true_beq, Bool.false_beq, Vm.S, Nat.reduceLeDiff, q117]
    refine call_one (S := numberSpec) rfl _ GaL.rfl ⟨l, by omega, rfl, ?_⟩
    simp -dsimp only [Vm.E, List.lookup, Nat.reduceAdd, Nat.reduceBEq, Int.reduceBNe, Int.reduceBEq, Bool.true_beq, Bool.false_beq, Vm.S, Nat.reduceLeDiff, q117]
    exact hq
  · rw [hf] at hq
    simp -dsimp only [Vm.E, List.lookup, Nat.reduceAdd, Nat.reduceBEq, Int.reduceBNe, Int.reduceBEq, Bool.true_beq, Bool.false_beq, Vm.S, Nat.reduceLeDiff, q117]
    exact hq
/-- A balance that is set; 0 does not stand. -/
def balSet (f : Fun) (key : List UInt8) (n : Int) : Fun := if n = 0 then (if f key = none then f else upd f key none) else upd f key (some (be 8 n))
theorem right8 {key : List UInt8} (n : Int) (h1 : 1 ≤ key.length) (h2 : key.length ≤ 32) : rightKV key (be 8 n) = true := by
  simp [rightKV, be_length]; omega
def balWriteSpec : Vm.Spec := fun args h Q => ∃ (V : VId) (f : Fun) (key : List UInt8) (n : Int), args = [.agg [.ptr V.iv 0, .sl 1 (key.map encB)], .v (.int .i64 n)] ∧ I64 n ∧ (1 ≤ key.length ∧ key.length ≤ 32) ∧ isView h V f ∧
  ∀ h', isView h' V (balSet f key n) → Same h h' [V.ic] → Q (.v (.int .i64 0)) h'
set_option maxRecDepth 20000 in
theorem does_balWrite : Does Tryz.prog 118 balWriteSpec := by
  refine does_of_awp (good_cons does_vdel (good_cons does_pack (good_cons does_vput good_nil))) Tryz.func118 rfl (by decide +kernel) (by decide +kernel) ?_
  rintro args h Q ⟨V, f, key, n, rfl, hn, hk, hV, hq⟩
  refine ⟨by simp [Tryz.f118], ?_⟩
  rw [awpFunc_some (by rfl)]
  unfold balSet at hq
  simp -dsimp only [Vm.E, List.lookup, Nat.reduceAdd, Nat.reduceBEq, Int.reduceBNe, Int.reduceBEq, Bool.true_beq, Bool.false_beq, Vm.S, Nat.reduceLeDiff, q118]
  cases c1 : (n != 0)
  · have d1 : n = 0 := by simpa using c1
    simp only [if_pos d1] at hq
    simp -dsimp only [Vm.E, List.lookup, Nat.reduceAdd, Nat.reduceBEq, Int.reduceBNe, Int.reduceBEq, Bool.true_beq, Bool.false_beq, Vm.S, Nat.reduceLeDiff, q118]
    refine call_one (S := vdelSpec) rfl _ GaL.rfl ⟨V, f, key, rfl, hV, fun hf => ?_, fun hf h' g1 g2 => ?_⟩
    · simp -dsimp only [Vm.E, List.lookup, Nat.reduceAdd, Nat.reduceBEq, Int.reduceBNe, Int.reduceBEq, Bool.true_beq, Bool.false_beq, Vm.S, Nat.reduceLeDiff, q118]
      exact hq h (by rw [if_pos hf]; exact hV) (.refl _ _)
    · simp -dsimp only [Vm.E, List.lookup, Nat.reduceAdd, Nat.reduceBEq, Int.reduceBNe, Int.reduceBEq, Bool.true_beq, Bool.false_beq, Vm.S, Nat.reduceLeDiff, q118]
      exact hq h' (by rw [if_neg hf]; exact g1) g2
  · have d1 : ¬ n = 0 := by simpa using c1
    simp only [if_neg d1] at hq
    simp -dsimp only [Vm.E, List.lookup, Nat.reduceAdd, Nat.reduceBEq, Int.reduceBNe, Int.reduceBEq, Bool.true_beq, Bool.false_beq, Vm.S, Nat.reduceLeDiff, q118]
    refine draw_cont [2] (.take 0 (.take 1 (.take 2 (.take 3 (.take 4 (.alt 5 (.alt 6 (.alt 7 (.alt 8 (.done) .stop) .stop) .stop) .stop)))))) (fun s h' => isView h' V (upd f key (some (be 8 n))) ∧ Same h h' [V.ic] ∧ s 4 = .v (.int .i64 0)) (by kernel_rfl) (by kernel_rfl) (by kernel_rfl) (by decide) ?_ ?_
    · simp -dsimp only [Vm.E, List.lookup, Nat.reduceAdd, Nat.reduceBEq, Int.reduceBNe, Int.reduceBEq, Bool.true_beq, Bool.false_beq, Vm.S, Nat.reduceLeDiff, q118]
      refine bs_intro zr3 (by decide) (by decide) rfl rfl (by simp [solid, AV.cells]) ?_
      simp -dsimp only [Vm.E, List.lookup, Nat.reduceAdd, Nat.reduceBEq, Int.reduceBNe, Int.reduceBEq, Bool.true_beq, Bool.false_beq, Vm.S, Nat.reduceLeDiff, q118]
      refine call_one (S := packSpec) rfl _ GaL.rfl ⟨[n], by simp, by simpa using hn, rfl, ?_⟩
      simp only [packOf_one]
      simp -dsimp only [Vm.E, List.lookup, Nat.reduceAdd, Nat.reduceBEq, Int.reduceBNe, Int.reduceBEq, Bool.true_beq, Bool.false_beq, Vm.S, Nat.reduceLeDiff, q118]
      refine call_one (S := vputSpec) rfl _ GaL.rfl ⟨V, f, key, be 8 n, rfl, hV, fun _ h' g1 g2 => ?_, fun hc => by rw [right8 n hk.1 hk.2] at hc; cases hc⟩
      simp -dsimp only [Vm.E, List.lookup, Nat.reduceAdd, Nat.reduceBEq, Int.reduceBNe, Int.reduceBEq, Bool.true_beq, Bool.false_beq, Vm.S, Nat.reduceLeDiff, q118]
      exact ⟨g1, g2, trivial⟩
    · rintro s h' ⟨g1, g2, g3⟩
      simp -dsimp only [Vm.E, List.lookup, Nat.reduceAdd, Nat.reduceBEq, Int.reduceBNe, Int.reduceBEq, Bool.true_beq, Bool.false_beq, Vm.S, Nat.reduceLeDiff, q118, g3]
      exact hq h' g1 g2
def fitsP (n : Int) : Bool := decide (-4611686018427387904 ≤ n) && decide (n ≤ 4611686018427387904)
theorem does_fits : Does Tryz.prog 178 (predSpec fitsP) := by
  refine does_of_awp good_nil Tryz.func178 rfl (by decide +kernel) (by decide +kernel) ?_
  rintro args h Q ⟨n, rfl, hq⟩
  refine ⟨by simp [Tryz.f178], ?_⟩
  rw [awpFunc_some (by rfl)]
  unfold fitsP at hq
  simp -dsimp only [Vm.E, List.lookup, Nat.reduceAdd, Nat.reduceBEq, Int.reduceBNe, Int.reduceBEq, Bool.true_beq, Bool.false_beq, Vm.S, Nat.reduceLeDiff, q178]
  cases c1 : decide (-4611686018427387904 ≤ n)
  · rw [c1] at hq
    simp -dsimp only [Vm.E, List.lookup, Nat.reduceAdd, Nat.reduceBEq, Int.reduceBNe, Int.reduceBEq, Bool.true_beq, Bool.false_beq, Vm.S, Nat.reduceLeDiff, q178]
    exact hq
  · rw [c1] at hq
    simp -dsimp only [Vm.E, List.lookup, Nat.reduceAdd, Nat.reduceBEq, Int.reduceBNe, Int.reduceBEq, Bool.true_beq, Bool.false_beq, Vm.S, Nat.reduceLeDiff, q178]
    exact hq
/-- Two totals together. -/
def addA (a b : Int) : Option Int := if fitsP a && (fitsP b && fitsP (w64 (a + b))) then some (w64 (a + b)) else none
def addSpec : Vm.Spec := fun args h Q => ∃ a b, args = [.v (.int .i64 a), .v (.int .i64 b)] ∧ (∀ n, addA a b = some n → Q (.tup [.v (.int .i64 n), .v (.int .i64 0)]) h) ∧ (addA a b = none → Q (.tup [.v (.int .i64 0), .v (.int .i64 9)]) h)
theorem does_add : Does Tryz.prog 116 addSpec := by
  refine does_of_awp (good_cons does_fits good_nil) Tryz.func116 rfl (by decide +kernel) (by decide +kernel) ?_
  rintro args h Q ⟨a, b, rfl, hq1, hq2⟩
  refine ⟨by simp [Tryz.f116], ?_⟩
  rw [awpFunc_some (by rfl)]
  unfold addA at hq1 hq2
  simp -dsimp only [Vm.E, List.lookup, Nat.reduceAdd, Nat.reduceBEq, Int.reduceBNe, Int.reduceBEq, Bool.true_beq, Bool.false_beq, Vm.S, Nat.reduceLeDiff, q116]
  refine call_one (S := predSpec fitsP) rfl _ GaL.rfl ⟨a, rfl, ?_⟩
  cases c1 : fitsP a
  · simp -dsimp only [Vm.E, List.lookup, Nat.reduceAdd, Nat.reduceBEq, Int.reduceBNe, Int.reduceBEq, Bool.true_beq, Bool.false_beq, Vm.S, Nat.reduceLeDiff, q116]
    exact hq2 (by rw [c1]; rfl)
  · simp -dsimp only [Vm.E, List.lookup, Nat.reduceAdd, Nat.reduceBEq, Int.reduceBNe, Int.reduceBEq, Bool.true_beq, Bool.false_beq, Vm.S, Nat.reduceLeDiff, q116]
    refine call_one (S := predSpec fitsP) rfl _ GaL.rfl ⟨b, rfl, ?_⟩
    cases c2 : fitsP b
    · simp -dsimp only [Vm.E, List.lookup, Nat.reduceAdd, Nat.reduceBEq, Int.reduceBNe, Int.reduceBEq, Bool.true_beq, Bool.false_beq, Vm.S, Nat.reduceLeDiff, q116]
      exact hq2 (by rw [c1, c2]; rfl)
    · simp -dsimp only [Vm.E, List.lookup, Nat.reduceAdd, Nat.reduceBEq, Int.reduceBNe, Int.reduceBEq, Bool.true_beq, Bool.false_beq, Vm.S, Nat.reduceLeDiff, q116]
      refine call_one (S := predSpec fitsP) rfl _ GaL.rfl ⟨_, rfl, ?_⟩
      cases c3 : fitsP (IntKind.i64.wrap (a + b))
      · simp -dsimp only [Vm.E, List.lookup, Nat.reduceAdd, Nat.reduceBEq, Int.reduceBNe, Int.reduceBEq, Bool.true_beq, Bool.false_beq, Vm.S, Nat.reduceLeDiff, q116]
        exact hq2 (by rw [c1, c2, c3]; rfl)
      · simp -dsimp only [Vm.E, List.lookup, Nat.reduceAdd, Nat.reduceBEq, Int.reduceBNe, Int.reduceBEq, Bool.true_beq, Bool.false_beq, Vm.S, Nat.reduceLeDiff, q116]
        exact hq1 _ (by rw [c1, c2, c3]; rfl)
def ofBalSpec : Vm.Spec := fun args h Q => ∃ (iv : Nat) (l : List Int), l.length ≤ 7 ∧ args = [.ptr iv 0, .sl 1 (l.map encI)] ∧ Q (.agg [.ptr iv 0, .sl 1 ((keyOf 66 l).map encB)]) h
theorem does_ofBal : Does Tryz.prog 115 ofBalSpec := by
  refine does_of_awp (good_cons does_key good_nil) Tryz.func115 rfl (by decide +kernel) (by decide +kernel) ?_
  rintro args h Q ⟨iv, l, hl, rfl, hq⟩
  refine ⟨by simp [Tryz.f115], ?_⟩
  rw [awpFunc_some (by rfl)]
  simp -dsimp only [Vm.E, List.lookup, Nat.reduceAdd, Nat.reduceBEq, Int.reduceBNe, Int.reduceBEq, Bool.true_beq, Bool.false_beq, Vm.S, Nat.reduceLeDiff, q115]
  refine call_one (S := keySpec) rfl _ GaL.rfl ⟨66, l, by omega, rfl, ?_⟩
  simp -dsimp only [Vm.E, List.lookup, Nat.reduceAdd, Nat.reduceBEq, Int.reduceBNe, Int.reduceBEq, Bool.true_beq, Bool.false_beq, Vm.S, Nat.reduceLeDiff, q115]
  exact hq
def balK (y fd ob : Int) : List UInt8 := keyOf 66 [y, fd, ob]
theorem balK_length (y fd ob : Int) : (balK y fd ob).length = 13 := by simp [balK, keyOf, packs, be_length]
structure Ln where
  fund : Int
  obj : Int
  node : Int
  amt : Int
def lnCells (x : Ln) : List AV := [.v (.int .i64 x.fund), .v (.int .i64 x.obj), .v (.int .i64 x.node), .v (.int .i64 x.amt)]
def lnAv (x : Ln) : AV := .agg (lnCells x)
def balGetSpec : Vm.Spec := fun args h Q => ∃ (V : VId) (f : Fun) (y fd ob : Int), args = [.ptr V.iv 0, .v (.int .i64 y), .v (.int .i64 fd), .v (.int .i64 ob)] ∧ isView h V f ∧ Q (.v (.int .i64 (readOf f (balK y fd ob)))) h
theorem does_balGet : Does Tryz.prog 113 balGetSpec := by
  refine does_of_awp (good_cons does_ofBal (good_cons does_balRead good_nil)) Tryz.func113 rfl (by decide +kernel) (by decide +kernel) ?_
  rintro args h Q ⟨V, f, y, fd, ob, rfl, hV, hq⟩
  refine ⟨by simp [Tryz.f113], ?_⟩
  rw [awpFunc_some (by rfl)]
  simp -dsimp only [Vm.E, List.lookup, Nat.reduceAdd, Nat.reduceBEq, Int.reduceBNe, Int.reduceBEq, Bool.true_beq, Bool.false_beq, Vm.S, Nat.reduceLeDiff, q113]
  refine bs_intro zr3 (by decide) (by decide) rfl rfl (by simp [solid, AV.cells]) ?_
  simp -dsimp only [Vm.E, List.lookup, Nat.reduceAdd, Nat.reduceBEq, Int.reduceBNe, Int.reduceBEq, Bool.true_beq, Bool.false_beq, Vm.S, Nat.reduceLeDiff, q113]
  refine call_one (S := ofBalSpec) rfl _ GaL.rfl ⟨V.iv, [y, fd, ob], by simp, rfl, ?_⟩
  simp -dsimp only [Vm.E, List.lookup, Nat.reduceAdd, Nat.reduceBEq, Int.reduceBNe, Int.reduceBEq, Bool.true_beq, Bool.false_beq, Vm.S, Nat.reduceLeDiff, q113]
  refine call_one (S := balReadSpec) rfl _ GaL.rfl ⟨V, f, balK y fd ob, rfl, hV, ?_⟩
  simp -dsimp only [Vm.E, List.lookup, Nat.reduceAdd, Nat.reduceBEq, Int.reduceBNe, Int.reduceBEq, Bool.true_beq, Bool.false_beq, Vm.S, Nat.reduceLeDiff, q113]
  exact hq
theorem addA_i64 {a b n : Int} (h : addA a b = some n) : I64 n := by
  unfold addA at h
  split at h
  · cases h; exact w64_range _
  · cases h
def balAdd (f : Fun) (key : List UInt8) (amt : Int) : Fun × Int := match addA (readOf f key) amt with
  | some n => (balSet f key n, 0)
  | none => (f, 9)
def balAddSpec : Vm.Spec := fun args h Q => ∃ (V : VId) (f : Fun) (y : Int) (x : Ln), args = [.ptr V.iv 0, .v (.int .i64 y), lnAv x] ∧ isView h V f ∧
  ∀ h', isView h' V (balAdd f (balK y x.fund x.obj) x.amt).1 → Same h h' [V.ic] → Q (.v (.int .i64 (balAdd f (balK y x.fund x.obj) x.amt).2)) h'
set_option maxRecDepth 20000 in
theorem does_balAdd : Does Tryz.prog 40 balAddSpec := by
  refine does_of_awp (good_cons does_ofBal (good_cons does_balRead (good_cons does_add (good_cons does_balWrite good_nil)))) Tryz.func40 rfl (by decide +kernel) (by decide +kernel) ?_
  rintro args h Q ⟨V, f, y, x, rfl, hV, hq⟩
  refine ⟨by simp [Tryz.f40], ?_⟩
  rw [awpFunc_some (by rfl)]
  simp only [lnAv, lnCells]
  simp -dsimp only [Vm.E, List.lookup, Nat.reduceAdd, Nat.reduceBEq, Int.reduceBNe, Int.reduceBEq, Bool.true_beq, Bool.false_beq, Vm.S, Nat.reduceLeDiff, q40]
  refine bs_intro zr3 (by decide) (by decide) rfl rfl (by simp [solid, AV.cells]) ?_
  simp -dsimp only [Vm.E, List.lookup, Nat.reduceAdd, Nat.reduceBEq, Int.reduceBNe, Int.reduceBEq, Bool.true_beq, Bool.false_beq, Vm.S, Nat.reduceLeDiff, q40]
  refine call_one (S := ofBalSpec) rfl _ GaL.rfl ⟨V.iv, [y, x.fund, x.obj], by simp, rfl, ?_⟩
  have hkl := balK_length y x.fund x.obj
  have ek : keyOf 66 [y, x.fund, x.obj] = balK y x.fund x.obj := rfl
  simp only [ek]
  generalize balK y x.fund x.obj = key at hkl hq ⊢
  unfold balAdd at hq
  simp -dsimp only [Vm.E, List.lookup, Nat.reduceAdd, Nat.reduceBEq, Int.reduceBNe, Int.reduceBEq, Bool.true_beq, Bool.false_beq, Vm.S, Nat.reduceLeDiff, q40]
  refine draw_cont [5, 7] (.take 0 (.take 2 (.take 3 (.alt 1 (.alt 4 (.take 5 (.take 6 (.take 7 (.alt 8 (.alt 9 (.done) .stop) .stop)))) .stop) .stop)))) (fun s h' => h' = h ∧ s 7 = .eptr [.ptr V.iv 0, .sl 1 (key.map encB)] ∧ ((∃ n, addA (readOf f key) x.amt = some n ∧ s 8 = .v (.int .i64 n) ∧ s 9 = .v (.int .i64 0)) ∨ (addA (readOf f key) x.amt = none ∧ s 9 = .v (.int .i64 9)))) (by kernel_rfl) (by kernel_rfl) (by kernel_rfl) (by decide) ?_ ?_
  · simp -dsimp only [Vm.E, List.lookup, Nat.reduceAdd, Nat.reduceBEq, Int.reduceBNe, Int.reduceBEq, Bool.true_beq, Bool.false_beq, Vm.S, Nat.reduceLeDiff, q40]
    refine call_one (S := balReadSpec) rfl _ GaL.rfl ⟨V, f, key, rfl, hV, ?_⟩
    simp -dsimp only [Vm.E, List.lookup, Nat.reduceAdd, Nat.reduceBEq, Int.reduceBNe, Int.reduceBEq, Bool.true_beq, Bool.false_beq, Vm.S, Nat.reduceLeDiff, q40]
    refine call_one (S := addSpec) rfl _ GaL.rfl ⟨readOf f key, x.amt, rfl, fun n hn => ?_, fun hn => ?_⟩
    · simp -dsimp only [Vm.E, List.lookup, Nat.reduceAdd, Nat.reduceBEq, Int.reduceBNe, Int.reduceBEq, Bool.true_beq, Bool.false_beq, Vm.S, Nat.reduceLeDiff, q40]
      exact .inl ⟨n, hn, rfl, trivial⟩
    · simp -dsimp only [Vm.E, List.lookup, Nat.reduceAdd, Nat.reduceBEq, Int.reduceBNe, Int.reduceBEq, Bool.true_beq, Bool.false_beq, Vm.S, Nat.reduceLeDiff, q40]
      exact .inr ⟨hn, trivial⟩
  · rintro s h' ⟨rfl, e7, ⟨n, hn, e8, e9⟩ | ⟨hn, e9⟩⟩
    · rw [hn] at hq
      simp -dsimp only [Vm.E, List.lookup, Nat.reduceAdd, Nat.reduceBEq, Int.reduceBNe, Int.reduceBEq, Bool.true_beq, Bool.false_beq, Vm.S, Nat.reduceLeDiff, q40, e7, e8, e9]
      refine call_one (S := balWriteSpec) rfl _ GaL.rfl ⟨V, f, key, n, rfl, addA_i64 hn, by omega, hV, fun h2 g1 g2 => ?_⟩
      simp -dsimp only [Vm.E, List.lookup, Nat.reduceAdd, Nat.reduceBEq, Int.reduceBNe, Int.reduceBEq, Bool.true_beq, Bool.false_beq, Vm.S, Nat.reduceLeDiff, q40]
      exact hq h2 g1 g2
    · rw [hn] at hq
      simp -dsimp only [Vm.E, List.lookup, Nat.reduceAdd, Nat.reduceBEq, Int.reduceBNe, Int.reduceBEq, Bool.true_beq, Bool.false_beq, Vm.S, Nat.reduceLeDiff, q40, e7, e9]
      exact hq h' hV (.refl _ _)
/-- The balance of a pair. -/
def balOf (year : Int) (p : KV) : Option Ln := match splitOf p.1 with
  | some (_, [y, fd, ob]) => if p.2.length = 8 then (if y = year then some ⟨fd, ob, 0, num8 p.2 0⟩ else none) else none
  | _ => none
abbrev allB (year : Int) (l : List KV) : List Ln := l.filterMap (balOf year)
def balAllSpec : Vm.Spec := fun args h Q => ∃ (V : VId) (f : Fun) (year : Int), args = [.ptr V.iv 0, .v (.int .i64 year)] ∧ isView h V f ∧ f.n ≤ 536870912 ∧
  ∀ l h', ScanIs f (keyOf 66 [year]) l → l.length ≤ 2 * f.n → isView h' V f → Same h h' [] → Q (.own true 34 4 ((allB year l).map lnAv)) h'
set_option maxRecDepth 20000 in
set_option maxHeartbeats 1000000 in
theorem does_balAll : Does Tryz.prog 114 balAllSpec := by
  refine does_of_awp (good_cons does_key (good_cons does_scan (good_cons does_split (good_cons does_number good_nil)))) Tryz.func114 rfl (by decide +kernel) (by decide +kernel) ?_
  rintro args h Q ⟨V, f, year, rfl, hV, hn, hq⟩
  refine ⟨by simp [Tryz.f114], ?_⟩
  rw [awpFunc_some (by rfl)]
  simp -dsimp only [Vm.E, List.lookup, Nat.reduceAdd, Nat.reduceBEq, Int.reduceBNe, Int.reduceBEq, Bool.true_beq, Bool.false_beq, Vm.S, Nat.reduceLeDiff, q114]
  refine bs_intro zr3 (by decide) (by decide) rfl rfl (by simp [solid, AV.cells]) ?_
  simp -dsimp only [Vm.E, List.lookup, Nat.reduceAdd, Nat.reduceBEq, Int.reduceBNe, Int.reduceBEq, Bool.true_beq, Bool.false_beq, Vm.S, Nat.reduceLeDiff, q114]
  refine call_one (S := keySpec) rfl _ GaL.rfl ⟨66, [year], by simp, rfl, ?_⟩
  simp -dsimp only [Vm.E, List.lookup, Nat.reduceAdd, Nat.reduceBEq, Int.reduceBNe, Int.reduceBEq, Bool.true_beq, Bool.false_beq, Vm.S, Nat.reduceLeDiff, q114]
  refine call_one (S := scanSpec) rfl _ GaL.rfl ⟨V, f, keyOf 66 [year], rfl, by rw [key1_length]; decide, hV, hn, fun l h1 hsc hln hV1 hs1 => ?_⟩
  simp -dsimp only [Vm.E, List.lookup, Nat.reduceAdd, Nat.reduceBEq, Int.reduceBNe, Int.reduceBEq, Bool.true_beq, Bool.false_beq, Vm.S, Nat.reduceLeDiff, q114]
  refine awp_loop (fun m s h' => ∃ i : Nat, i + m = l.length ∧ h' = h1 ∧ s = mk [(1, .v (.int .i64 year)), (5, .own true 34 4 ((allB year (l.take (i))).map lnAv)), (17, .own true 47 2 (l.map kvAv)), (18, .v (.int .i64 l.length)), (19, .v (.int .i64 (i : Nat)))])
    l.length _ (le_mk _ ?_) ⟨0, by omega, rfl, rfl⟩ ?_
  · simp only [List.forall_mem_cons, List.not_mem_nil, false_imp_iff, implies_true, and_true]
    try simp -dsimp only [Vm.E, List.lookup, Nat.reduceAdd, Nat.reduceBEq, Int.reduceBNe, Int.reduceBEq, Bool.true_beq, Bool.false_beq, Vm.S, Nat.reduceLeDiff, q114]
    repeat' first | exact Fg.refl _ | exact Fg.nil _ _ _ (by decide) | refine And.intro ?_ ?_
  · rintro m s h' ⟨i, hi, rfl, rfl⟩
    simp -dsimp only [Vm.E, List.lookup, Nat.reduceAdd, Nat.reduceBEq, Int.reduceBNe, Int.reduceBEq, Bool.true_beq, Bool.false_beq, Vm.S, Nat.reduceLeDiff, q114]
    refine cond_intro (fun hcc => ?_) (fun hcc => ?_)
    · have hlt : i < l.length := by have := of_decide_eq_true hcc; omega
      have hw : IntKind.i64.wrap ((i : Int) + 1) = ((i + 1 : Nat) : Int) := by rw [wrap_i64 (by omega) (by omega)]; simp
      have hget : (l.map kvAv)[i]? = some (kvAv l[i]) := by simp [hlt]
      have est := filterMap_step (balOf year) l i hlt
      have hal : (allB year (l.take i)).length ≤ i := filterMap_le (balOf year) l i
      have hin := ((hsc.2 l[i].1 l[i].2).1 (List.getElem_mem hlt)).1
      have hkl : l[i].1.length ≤ 32 := hV.klen hin
      have hvl : l[i].2.length ≤ 120 := hV.len _ _ hin
      clear hin
      generalize l[i] = p at hget est hkl hvl
      obtain ⟨k, v⟩ := p
      simp only at hkl hvl
      have e0 : balOf year (k, v) = match splitOf k with
        | some (_, [y, fd, ob]) => if v.length = 8 then (if y = year then some ⟨fd, ob, 0, num8 v 0⟩ else none) else none
        | _ => none := rfl
      simp -dsimp only [Vm.E, List.lookup, Nat.reduceAdd, Nat.reduceBEq, Int.reduceBNe, Int.reduceBEq, Bool.true_beq, Bool.false_beq, Vm.S, Nat.reduceLeDiff, q114]
      refine idxO_intro (by omega) (by simp; omega) ?_
      simp -dsimp only [Vm.E, List.lookup, Nat.reduceAdd, Nat.reduceBEq, Int.reduceBNe, Int.reduceBEq, Bool.true_beq, Bool.false_beq, Vm.S, Nat.reduceLeDiff, q114, Int.toNat_natCast]
      refine eltA_intro hget ?_
      simp only [kvAv]
      simp -dsimp only [Vm.E, List.lookup, Nat.reduceAdd, Nat.reduceBEq, Int.reduceBNe, Int.reduceBEq, Bool.true_beq, Bool.false_beq, Vm.S, Nat.reduceLeDiff, q114, AV.cells, List.drop_zero]
      refine call_one (S := splitSpec) rfl _ GaL.rfl ⟨k, by omega, rfl, fun hs => ?_, fun t l' hs => ?_⟩
      · rw [hs] at e0
        simp only at e0
        rw [e0] at est
        unfold noKey
        simp -dsimp only [Vm.E, List.lookup, Nat.reduceAdd, Nat.reduceBEq, Int.reduceBNe, Int.reduceBEq, Bool.true_beq, Bool.false_beq, Vm.S, Nat.reduceLeDiff, q114]
        refine call_one (S := numberSpec) rfl _ GaL.rfl ⟨v, by omega, rfl, ?_⟩
        simp -dsimp only [Vm.E, List.lookup, Nat.reduceAdd, Nat.reduceBEq, Int.reduceBNe, Int.reduceBEq, Bool.true_beq, Bool.false_beq, Vm.S, Nat.reduceLeDiff, q114]
        refine kept_intro ⟨l.length - (i + 1), by omega, _, le_mk [(1, .v (.int .i64 year)), (5, .own true 34 4 ((allB year (l.take (i + 1))).map lnAv)), (17, .own true 47 2 (l.map kvAv)), (18, .v (.int .i64 l.length)), (19, .v (.int .i64 (i + 1 : Nat)))] ?_, i + 1, by omega, rfl, rfl⟩
        simp only [List.forall_mem_cons, List.not_mem_nil, false_imp_iff, implies_true, and_true, hw, est, Option.toList, List.append_nil]
        try simp -dsimp only [Vm.E, List.lookup, Nat.reduceAdd, Nat.reduceBEq, Int.reduceBNe, Int.reduceBEq, Bool.true_beq, Bool.false_beq, Vm.S, Nat.reduceLeDiff, q114, hw, est, Option.toList, List.append_nil]
        repeat' first | exact Fg.refl _ | exact Fg.nil _ _ _ (by decide) | refine And.intro ?_ ?_
      · rw [hs] at e0
        simp -dsimp only [Vm.E, List.lookup, Nat.reduceAdd, Nat.reduceBEq, Int.reduceBNe, Int.reduceBEq, Bool.true_beq, Bool.false_beq, Vm.S, Nat.reduceLeDiff, q114]
        refine call_one (S := numberSpec) rfl _ GaL.rfl ⟨v, by omega, rfl, ?_⟩
        cases c8 : (v.length == 8)
        · have d8 : ¬ v.length = 8 := by simpa using c8
          have e0 : balOf year (k, v) = none := by
            rw [e0]
            simp only [if_neg d8]
            split <;> rfl
          rw [e0] at est
          simp -dsimp only [Vm.E, List.lookup, Nat.reduceAdd, Nat.reduceBEq, Int.reduceBNe, Int.reduceBEq, Bool.true_beq, Bool.false_beq, Vm.S, Nat.reduceLeDiff, q114]
          refine kept_intro ⟨l.length - (i + 1), by omega, _, le_mk [(1, .v (.int .i64 year)), (5, .own true 34 4 ((allB year (l.take (i + 1))).map lnAv)), (17, .own true 47 2 (l.map kvAv)), (18, .v (.int .i64 l.length)), (19, .v (.int .i64 (i + 1 : Nat)))] ?_, i + 1, by omega, rfl, rfl⟩
          simp only [List.forall_mem_cons, List.not_mem_nil, false_imp_iff, implies_true, and_true, hw, est, Option.toList, List.append_nil]
          try simp -dsimp only [Vm.E, List.lookup, Nat.reduceAdd, Nat.reduceBEq, Int.reduceBNe, Int.reduceBEq, Bool.true_beq, Bool.false_beq, Vm.S, Nat.reduceLeDiff, q114, hw, est, Option.toList, List.append_nil]
          repeat' first | exact Fg.refl _ | exact Fg.nil _ _ _ (by decide) | refine And.intro ?_ ?_
        · have d8 : v.length = 8 := by simpa using c8
          simp -dsimp only [Vm.E, List.lookup, Nat.reduceAdd, Nat.reduceBEq, Int.reduceBNe, Int.reduceBEq, Bool.true_beq, Bool.false_beq, Vm.S, Nat.reduceLeDiff, q114]
          by_cases d3 : l'.length = 3
          · have c3 : ((l'.length : Int) == 3) = true := by simp [d3]
            match l', d3 with
            | [y, fd, ob], _ =>
            simp only [if_pos d8] at e0
            have k3 : (((3 : Nat) : Int) == 3) = true := rfl
            have g0 : (([y, fd, ob] : List Int).map encI)[(0 : Int).toNat]? = some (encI y) := rfl
            have g1 : (([y, fd, ob] : List Int).map encI)[(1 : Int).toNat]? = some (encI fd) := rfl
            have g2 : (([y, fd, ob] : List Int).map encI)[(2 : Int).toNat]? = some (encI ob) := rfl
            have hl3 : (([y, fd, ob] : List Int).map encI).length = 3 := rfl
            generalize hxs : ([y, fd, ob] : List Int).map encI = xs at g0 g1 g2 hl3 ⊢
            simp -dsimp only [Vm.E, List.lookup, Nat.reduceAdd, Nat.reduceBEq, Int.reduceBNe, Int.reduceBEq, Bool.true_beq, Bool.false_beq, Vm.S, Nat.reduceLeDiff, q114, hl3, k3]
            refine idxO_intro (by decide) (by rw [hl3]; decide) ?_
            simp -dsimp only [Vm.E, List.lookup, Nat.reduceAdd, Nat.reduceBEq, Int.reduceBNe, Int.reduceBEq, Bool.true_beq, Bool.false_beq, Vm.S, Nat.reduceLeDiff, q114]
            refine eltA_intro g0 ?_
            simp only [encI]
            simp -dsimp only [Vm.E, List.lookup, Nat.reduceAdd, Nat.reduceBEq, Int.reduceBNe, Int.reduceBEq, Bool.true_beq, Bool.false_beq, Vm.S, Nat.reduceLeDiff, q114, AV.cells, List.drop_zero]
            cases cy : (y == year)
            · have dy : ¬ y = year := by simpa using cy
              rw [if_neg dy] at e0
              rw [e0] at est
              simp -dsimp only [Vm.E, List.lookup, Nat.reduceAdd, Nat.reduceBEq, Int.reduceBNe, Int.reduceBEq, Bool.true_beq, Bool.false_beq, Vm.S, Nat.reduceLeDiff, q114]
              refine kept_intro ⟨l.length - (i + 1), by omega, _, le_mk [(1, .v (.int .i64 year)), (5, .own true 34 4 ((allB year (l.take (i + 1))).map lnAv)), (17, .own true 47 2 (l.map kvAv)), (18, .v (.int .i64 l.length)), (19, .v (.int .i64 (i + 1 : Nat)))] ?_, i + 1, by omega, rfl, rfl⟩
              simp only [List.forall_mem_cons, List.not_mem_nil, false_imp_iff, implies_true, and_true, hw, est, Option.toList, List.append_nil]
              try simp -dsimp only [Vm.E, List.lookup, Nat.reduceAdd, Nat.reduceBEq, Int.reduceBNe, Int.reduceBEq, Bool.true_beq, Bool.false_beq, Vm.S, Nat.reduceLeDiff, q114, hw, est, Option.toList, List.append_nil]
              repeat' first | exact Fg.refl _ | exact Fg.nil _ _ _ (by decide) | refine And.intro ?_ ?_
            · have dy : y = year := by simpa using cy
              rw [if_pos dy] at e0
              rw [e0] at est
              simp -dsimp only [Vm.E, List.lookup, Nat.reduceAdd, Nat.reduceBEq, Int.reduceBNe, Int.reduceBEq, Bool.true_beq, Bool.false_beq, Vm.S, Nat.reduceLeDiff, q114]
              refine draw_cont [] (.take 0 (.take 1 (.take 2 (.take 4 (.take 5 (.take 7 (.alt 3 (.alt 6 (.alt 8 (.alt 9 (.alt 10 (.alt 11 (.done) .stop) .stop) .stop) .stop) .stop) (.alt 6 (.alt 3 (.alt 8 (.alt 9 (.alt 10 (.alt 11 (.done) .stop) .stop) .stop) .stop) .stop) (.stop))))))))) (fun s h2 => h2 = h' ∧ s 5 = .own true 34 4 ((allB year (l.take (i + 1))).map lnAv) ∧ s 1 = .v (.int .i64 year) ∧ s 17 = .own true 47 2 (l.map kvAv) ∧ s 18 = .v (.int .i64 l.length) ∧ s 19 = .v (.int .i64 i)) (by kernel_rfl) (by kernel_rfl) (by kernel_rfl) (by decide) ?_ ?_
              · repeat' first
                  | with_reducible exact True.intro
                  | simp -dsimp only [Vm.E, List.lookup, Nat.reduceAdd, Nat.reduceBEq, Int.reduceBNe, Int.reduceBEq, Bool.true_beq, Bool.false_beq, Vm.S, Nat.reduceLeDiff, q114, est, List.map_append, List.map_cons, List.map_nil, Option.toList, lnAv, lnCells, AV.cells, List.drop_zero, d8, if_true]
                  | refine idxO_intro (by decide) (by rw [hl3]; decide) ?_
                  | (refine eltA_intro g1 ?_; simp only [encI])
                  | (refine eltA_intro g2 ?_; simp only [encI])
                  | refine bs_intro zr34 (by decide) (by decide) rfl rfl (by simp [solid, AV.cells]) ?_
                  | refine app_sl Tryz.underlying35 (by simp [AV.cells]) (by simp only [List.length_map, List.length_cons, List.length_nil]; omega) ?_
                  | refine tree_alt ?_ ?_
              · rintro s h2 ⟨rfl, e5, e1, e17, e18, e19⟩
                simp -dsimp only [Vm.E, List.lookup, Nat.reduceAdd, Nat.reduceBEq, Int.reduceBNe, Int.reduceBEq, Bool.true_beq, Bool.false_beq, Vm.S, Nat.reduceLeDiff, q114, e5, e1, e17, e18, e19]
                refine kept_intro ⟨l.length - (i + 1), by omega, _, le_mk [(1, .v (.int .i64 year)), (5, .own true 34 4 ((allB year (l.take (i + 1))).map lnAv)), (17, .own true 47 2 (l.map kvAv)), (18, .v (.int .i64 l.length)), (19, .v (.int .i64 (i + 1 : Nat)))] ?_, i + 1, by omega, rfl, rfl⟩
                simp only [List.forall_mem_cons, List.not_mem_nil, false_imp_iff, implies_true, and_true, hw, e5, e1, e17, e18, e19]
                try simp -dsimp only [Vm.E, List.lookup, Nat.reduceAdd, Nat.reduceBEq, Int.reduceBNe, Int.reduceBEq, Bool.true_beq, Bool.false_beq, Vm.S, Nat.reduceLeDiff, q114, hw, e5, e1, e17, e18, e19]
                repeat' first | exact Fg.refl _ | exact Fg.nil _ _ _ (by decide) | refine And.intro ?_ ?_
          · have c3 : ((l'.length : Int) == 3) = false := by simp; omega
            have e0 : balOf year (k, v) = none := by
              rw [e0]
              split
              · rename_i h2; cases h2; exact absurd rfl d3
              · rfl
            rw [e0] at est
            simp -dsimp only [Vm.E, List.lookup, Nat.reduceAdd, Nat.reduceBEq, Int.reduceBNe, Int.reduceBEq, Bool.true_beq, Bool.false_beq, Vm.S, Nat.reduceLeDiff, q114, c3]
            refine kept_intro ⟨l.length - (i + 1), by omega, _, le_mk [(1, .v (.int .i64 year)), (5, .own true 34 4 ((allB year (l.take (i + 1))).map lnAv)), (17, .own true 47 2 (l.map kvAv)), (18, .v (.int .i64 l.length)), (19, .v (.int .i64 (i + 1 : Nat)))] ?_, i + 1, by omega, rfl, rfl⟩
            simp only [List.forall_mem_cons, List.not_mem_nil, false_imp_iff, implies_true, and_true, hw, est, Option.toList, List.append_nil]
            try simp -dsimp only [Vm.E, List.lookup, Nat.reduceAdd, Nat.reduceBEq, Int.reduceBNe, Int.reduceBEq, Bool.true_beq, Bool.false_beq, Vm.S, Nat.reduceLeDiff, q114, hw, est, Option.toList, List.append_nil]
            repeat' first | exact Fg.refl _ | exact Fg.nil _ _ _ (by decide) | refine And.intro ?_ ?_
    · have hge : ¬ i < l.length := by have := of_decide_eq_false hcc; omega
      simp -dsimp only [Vm.E, List.lookup, Nat.reduceAdd, Nat.reduceBEq, Int.reduceBNe, Int.reduceBEq, Bool.true_beq, Bool.false_beq, Vm.S, Nat.reduceLeDiff, q114]
      rw [List.take_of_length_le (by omega)]
      exact hq l h' hsc hln hV1 hs1
end Go.Proofs.Lx
