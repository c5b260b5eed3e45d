/- The law YearsStay. -/
import Derived.Test.YthfbpdipilajoaaGreatDoorL24
set_option linter.unusedSimpArgs false
set_option linter.unusedVariables false
namespace Go.Proofs.Lx
open Go.Vm
attribute [local irreducible] awpArr awpBin awpMake awpAppend awpCvX awpStrOf awpBinX awpSlice awpBS awpStore awpAlloc awpCopy awpIndex awpDraw awpIdxX awpFa awpField awpLookup awpUpdate awpDelete awpClear awpRange awpNext awpEntry awpBuild awpClearS awpIdxL

/-- A statement's answer. -/
def trueSpec : Vm.Spec := fun args h Q => args = [] ∧ ∀ h', Q (.v (.bool true)) h'

theorem state_new (n : Int) : stateOf noF n = 0 := by unfold stateOf readOf; simp [noF]
theorem check_turn (f : Fun) (n st m : Int) (hst : st = 1 ∨ st = 2) : checkY (yrTurn f n st) m = if yrK m = yrK n then (if st = 1 then 0 else 13) else checkY f m := by
  unfold checkY
  rw [stateOf_turn _ _ _ _ hst]
  by_cases h : yrK m = yrK n
  · simp only [h, if_true]; rcases hst with rfl | rfl <;> simp
  · simp only [h, if_false]
theorem yrK_ne {a b : Int} (h : a ≠ b) (ha : 0 ≤ a ∧ a ≤ 4294967295) (hb : 0 ≤ b ∧ b ≤ 4294967295) : yrK a ≠ yrK b := fun e => by
  have := (key_inj (by simp) (by simp) e).2
  simp only [List.map_cons, List.map_nil, clampK_id ha.1 ha.2, clampK_id hb.1 hb.2] at this
  exact h (by simpa using this)

set_option maxRecDepth 20000 in
theorem does_law22awake : Does Tryz.prog 28 trueSpec := by
  refine does_of_awp (good_cons does_vnew (good_cons does_yOpen (good_cons does_yCheck (good_cons does_yShut good_nil)))) Tryz.func28 rfl (by decide +kernel) (by decide +kernel) ?_
  rintro args h Q ⟨rfl, hq⟩
  refine ⟨by simp [Tryz.f28], ?_⟩
  rw [awpFunc_some (by rfl)]
  simp -dsimp only [Vm.E, List.lookup, Nat.reduceAdd, Nat.reduceBEq, Int.reduceBNe, Int.reduceBEq, Bool.true_beq, Bool.false_beq]
  refine call_one (S := vnewSpec) rfl _ GaL.rfl ⟨rfl, ?_⟩
  have hV := isView_new h
  generalize hh : (h ++ [AObj.map [] 0, AObj.map [] 0, vobj h.length (h.length + 1)]) = h0 at hV ⊢
  obtain ⟨V, hVe⟩ : ∃ V : VId, V = ⟨h.length + 2, h.length, h.length + 1⟩ := ⟨_, rfl⟩
  have hVi : h.length + 2 = V.iv := by rw [hVe]
  rw [← hVe] at hV
  rw [hVi]
  clear hh hVe hVi
  simp -dsimp only [Vm.E, List.lookup, Nat.reduceAdd, Nat.reduceBEq, Int.reduceBNe, Int.reduceBEq, Bool.true_beq, Bool.false_beq]
  refine nil_pointer Tryz.underlying26 ?_
  simp -dsimp only [Vm.E, List.lookup, Nat.reduceAdd, Nat.reduceBEq, Int.reduceBNe, Int.reduceBEq, Bool.true_beq, Bool.false_beq]
  have o1 : openOf noF 2020 = (yrTurn noF 2020 1, 0) := by unfold openOf; rw [state_new]; rfl
  refine call_one (S := yOpenSpec) rfl _ GaL.rfl ⟨V, _, 2020, rfl, hV, fun h1 hV1 _ => ?_⟩
  rw [o1] at hV1 ⊢
  simp -dsimp only [Vm.E, List.lookup, Nat.reduceAdd, Nat.reduceBEq, Int.reduceBNe, Int.reduceBEq, Bool.true_beq, Bool.false_beq]
  refine call_one (S := yCheckSpec) rfl _ GaL.rfl ⟨V, _, 2020, rfl, hV1, ?_⟩
  have c1 : checkY (yrTurn noF 2020 1) 2020 = 0 := by rw [check_turn _ _ _ _ (.inl rfl)]; rfl
  have o2 : shutOf (yrTurn noF 2020 1) 2020 = (yrTurn (yrTurn noF 2020 1) 2020 2, 0) := by unfold shutOf; rw [c1]; rfl
  rw [c1]
  simp -dsimp only [Vm.E, List.lookup, Nat.reduceAdd, Nat.reduceBEq, Int.reduceBNe, Int.reduceBEq, Bool.true_beq, Bool.false_beq]
  refine call_one (S := yShutSpec) rfl _ GaL.rfl ⟨V, _, 2020, rfl, hV1, fun h2 hV2 _ => ?_⟩
  simp only [o2] at hV2 ⊢
  simp -dsimp only [Vm.E, List.lookup, Nat.reduceAdd, Nat.reduceBEq, Int.reduceBNe, Int.reduceBEq, Bool.true_beq, Bool.false_beq]
  refine call_one (S := yCheckSpec) rfl _ GaL.rfl ⟨V, _, 2020, rfl, hV2, ?_⟩
  have c2 : checkY (yrTurn (yrTurn noF 2020 1) 2020 2) 2020 = 13 := by rw [check_turn _ _ _ _ (.inr rfl)]; rfl
  rw [c2]
  simp -dsimp only [Vm.E, List.lookup, Nat.reduceAdd, Nat.reduceBEq, Int.reduceBNe, Int.reduceBEq, Bool.true_beq, Bool.false_beq]
  refine call_one (S := yCheckSpec) rfl _ GaL.rfl ⟨V, _, 2021, rfl, hV2, ?_⟩
  have hne : ¬ yrK 2021 = yrK 2020 := yrK_ne (by decide) (by decide) (by decide)
  have c3 : checkY (yrTurn (yrTurn noF 2020 1) 2020 2) 2021 = 7 := by
    rw [check_turn _ _ _ _ (.inr rfl), if_neg hne, check_turn _ _ _ _ (.inl rfl), if_neg hne]; unfold checkY; rw [state_new]; rfl
  rw [c3]
  simp -dsimp only [Vm.E, List.lookup, Nat.reduceAdd, Nat.reduceBEq, Int.reduceBNe, Int.reduceBEq, Bool.true_beq, Bool.false_beq]
  refine call_one (S := yOpenSpec) rfl _ GaL.rfl ⟨V, _, 2020, rfl, hV2, fun h3 hV3 _ => ?_⟩
  have o3 : (openOf (yrTurn (yrTurn noF 2020 1) 2020 2) 2020).2 = 8 := by
    unfold openOf; rw [stateOf_turn _ _ _ _ (.inr rfl), if_pos rfl]; rfl
  rw [o3]
  simp -dsimp only [Vm.E, List.lookup, Nat.reduceAdd, Nat.reduceBEq, Int.reduceBNe, Int.reduceBEq, Bool.true_beq, Bool.false_beq, Tryz.results28]
  exact hq _

theorem idx_map {α : Type} (g : α → AV) (l : List α) (i : Nat) (hi : i < l.length) {e sz : Nat} {K : AV → Prop} (hK : K (.eptr (g l[i]).cells)) : awpIdx (some (e, sz)) (.sl sz (l.map g)) (.v (.int .i64 i)) K := by
  refine idx_intro (xs := l.map g) (by simp [asSl]) (by simp; omega) (fun x hx => ?_)
  have hx' : x = g l[i] := by simp [hi] at hx; exact hx.symm
  subst hx'; exact hK
abbrev Do := Int × Int
def doAv (p : Do) : AV := .agg [.v (.int .i64 p.1), .v (.int .i64 p.2)]
def yStaySpec : Vm.Spec := fun args h Q => ∃ (c : UInt8) (l : List Do), l.length ≤ 9223372036854775807 ∧ args = [.v (.int .u8 c.toNat), .sl 2 (l.map doAv)] ∧ ∀ h', Q (.v (.bool true)) h'

set_option maxRecDepth 20000 in
set_option maxHeartbeats 16000000 in
theorem does_yStay : Does Tryz.prog 5 yStaySpec := by
  refine does_of_awp (good_cons does_vnew (good_cons does_yOpen (good_cons does_yShut (good_cons does_yState (good_cons does_yAll (good_cons does_hasInt (good_cons does_law22awake good_nil))))))) Tryz.func5 rfl (by decide +kernel) (by decide +kernel) ?_
  rintro args h Q ⟨c, l, hl, rfl, hq⟩
  refine ⟨by simp [Tryz.f5], ?_⟩
  rw [awpFunc_some (by rfl)]
  simp -dsimp only [Vm.E, List.lookup, Nat.reduceAdd, Nat.reduceBEq, Int.reduceBNe, Int.reduceBEq, Bool.true_beq, Bool.false_beq, Tryz.underlying57]
  cases c60 : decide ((l.length : Int) > 60)
  · have d60 := of_decide_eq_false c60
    simp -dsimp only [Vm.E, List.lookup, Nat.reduceAdd, Nat.reduceBEq, Int.reduceBNe, Int.reduceBEq, Bool.true_beq, Bool.false_beq]
    refine rem_intro (by decide) ?_
    obtain ⟨r, hr, hre⟩ : ∃ r : Nat, r < 100 ∧ ((c.toNat : Int).tmod 100) = (r : Nat) := ⟨c.toNat % 100, by omega, by rw [Int.tmod_eq_emod_of_nonneg (by omega)]; omega⟩
    simp only [hre]
    simp -dsimp only [Vm.E, List.lookup, Nat.reduceAdd, Nat.reduceBEq, Int.reduceBNe, Int.reduceBEq, Bool.true_beq, Bool.false_beq, cv5_3]
    obtain ⟨y, hy⟩ : ∃ y : Int, y = 2000 + (r : Int) := ⟨_, rfl⟩
    have hwy : IntKind.i64.wrap (2000 + IntKind.i64.wrap (r : Int)) = y := by rw [wrap_i64 (n := (r : Int)) (by omega) (by omega), wrap_i64 (by omega) (by omega), hy]
    simp only [hwy]
    refine call_one (S := vnewSpec) rfl _ GaL.rfl ⟨rfl, ?_⟩
    have hV := isView_new h
    generalize hh : (h ++ [AObj.map [] 0, AObj.map [] 0, vobj h.length (h.length + 1)]) = h0 at hV ⊢
    obtain ⟨V, hVe⟩ : ∃ V : VId, V = ⟨h.length + 2, h.length, h.length + 1⟩ := ⟨_, rfl⟩
    have hVi : h.length + 2 = V.iv := by rw [hVe]
    rw [← hVe] at hV
    simp only [hVi]
    clear hh hVe hVi
    have hry : rightY y = true := by unfold rightY; simp; omega
    have o1 : openOf noF y = (yrTurn noF y 1, 0) := by unfold openOf; rw [state_new, hry]; rfl
    simp -dsimp only [Vm.E, List.lookup, Nat.reduceAdd, Nat.reduceBEq, Int.reduceBNe, Int.reduceBEq, Bool.true_beq, Bool.false_beq]
    refine call_one (S := yOpenSpec) rfl _ GaL.rfl ⟨V, _, y, rfl, hV, fun h1 hV1 _ => ?_⟩
    rw [o1] at hV1 ⊢
    simp -dsimp only [Vm.E, List.lookup, Nat.reduceAdd, Nat.reduceBEq, Int.reduceBNe, Int.reduceBEq, Bool.true_beq, Bool.false_beq, bne_self_eq_false]
    have c1 : checkY (yrTurn noF y 1) y = 0 := by rw [check_turn _ _ _ _ (.inl rfl)]; simp
    have o2 : shutOf (yrTurn noF y 1) y = (yrTurn (yrTurn noF y 1) y 2, 0) := by unfold shutOf; rw [c1]; rfl
    refine call_one (S := yShutSpec) rfl _ GaL.rfl ⟨V, _, y, rfl, hV1, fun h2 hV2 _ => ?_⟩
    simp only [o2] at hV2 ⊢
    simp -dsimp only [Vm.E, List.lookup, Nat.reduceAdd, Nat.reduceBEq, Int.reduceBNe, Int.reduceBEq, Bool.true_beq, Bool.false_beq, bne_self_eq_false, Tryz.underlying57]
    have hst0 : stateOf (yrTurn (yrTurn noF y 1) y 2) y = 2 := by rw [stateOf_turn _ _ _ _ (.inr rfl), if_pos rfl]
    have hn0 : (yrTurn (yrTurn noF y 1) y 2).n = 2 := rfl
    generalize yrTurn (yrTurn noF y 1) y 2 = f0 at hV2 hst0 hn0
    clear hV hV1 o1 o2 c1
    refine awp_loop (fun m s h' => ∃ (i : Nat) (f : Fun), i + m = l.length ∧ isView h' V f ∧ stateOf f y = 2 ∧ f.n ≤ i + 2 ∧ s = mk [(5, .v (.int .i64 y)), (6, .ptr V.iv 0), (28, .sl 2 (l.map doAv)), (29, .v (.int .i64 l.length)), (30, .v (.int .i64 i))])
      l.length _ (le_mk _ ?_) ⟨0, f0, by omega, hV2, hst0, by omega, rfl⟩ ?_
    · simp only [List.forall_mem_cons, List.not_mem_nil, false_imp_iff, implies_true, and_true]
      simp -dsimp only [Vm.E, List.lookup, Nat.reduceAdd, Nat.reduceBEq, Int.reduceBNe, Int.reduceBEq, Bool.true_beq, Bool.false_beq]
      exact ⟨.refl _, .refl _, .refl _, .refl _, .refl _⟩
    · rintro m s h' ⟨i, f, hi, hV, hy2, hfn, rfl⟩
      simp -dsimp only [Vm.E, List.lookup, Nat.reduceAdd, Nat.reduceBEq, Int.reduceBNe, Int.reduceBEq, Bool.true_beq, Bool.false_beq]
      refine cond_intro (fun hcc => ?_) (fun hcc => ?_)
      · have hlt : i < l.length := by have := of_decide_eq_true hcc; omega
        have hw : IntKind.i64.wrap ((i : Int) + 1) = ((i + 1 : Nat) : Int) := by rw [wrap_i64 (by omega) (by omega)]; simp
        simp -dsimp only [Vm.E, List.lookup, Nat.reduceAdd, Nat.reduceBEq, Int.reduceBNe, Int.reduceBEq, Bool.true_beq, Bool.false_beq, es57, as57]
        refine idx_map doAv l i hlt ?_
        obtain ⟨k, hk⟩ : ∃ k, l[i] = k := ⟨_, rfl⟩
        simp only [hk, doAv]
        simp -dsimp only [Vm.E, List.lookup, Nat.reduceAdd, Nat.reduceBEq, Int.reduceBNe, Int.reduceBEq, Bool.true_beq, Bool.false_beq, sto_place, sto_box, sto_pp, sto_pc, sto_ptr, sto_cells, stoOk_eq, solid_v, solid_sl, solid_agg, solid_eptr, solid_ptr, solid_mp, solid_clo, cells_eptr, put_nil, put_zero, put_succ, bld_nil, bld_cons, bld_some, bsIx_nil, bsIx_cons, bsAll_nil, bsAll_cons, List.length_cons, List.length_nil, Nat.reduceLeDiff, decide_true, Bool.and_self, Bool.and_true, Bool.true_and, take_sc, take_z, eq_self, AV.cells, of60, al60, sz60, fo60_0, of3]
        cases ck : (k.1 == 0)
        · simp -dsimp only [Vm.E, List.lookup, Nat.reduceAdd, Nat.reduceBEq, Int.reduceBNe, Int.reduceBEq, Bool.true_beq, Bool.false_beq, sto_place, sto_box, sto_pp, sto_pc, sto_ptr, sto_cells, stoOk_eq, solid_v, solid_sl, solid_agg, solid_eptr, solid_ptr, solid_mp, solid_clo, cells_eptr, put_nil, put_zero, put_succ, bld_nil, bld_cons, bld_some, bsIx_nil, bsIx_cons, bsAll_nil, bsAll_cons, List.length_cons, List.length_nil, Nat.reduceLeDiff, decide_true, Bool.and_self, Bool.and_true, Bool.true_and, take_sc, take_z, eq_self, fo60_1, of3]
          refine call_one (S := yShutSpec) rfl _ GaL.rfl ⟨V, f, k.2, rfl, hV, fun h2 hV2 _ => ?_⟩
          simp -dsimp only [Vm.E, List.lookup, Nat.reduceAdd, Nat.reduceBEq, Int.reduceBNe, Int.reduceBEq, Bool.true_beq, Bool.false_beq, sto_place, sto_box, sto_pp, sto_pc, sto_ptr, sto_cells, stoOk_eq, solid_v, solid_sl, solid_agg, solid_eptr, solid_ptr, solid_mp, solid_clo, cells_eptr, put_nil, put_zero, put_succ, bld_nil, bld_cons, bld_some, bsIx_nil, bsIx_cons, bsAll_nil, bsAll_cons, List.length_cons, List.length_nil, Nat.reduceLeDiff, decide_true, Bool.and_self, Bool.and_true, Bool.true_and, take_sc, take_z, eq_self]
          have hst : stateOf (shutOf f k.2).1 y = 2 := shut_stays f k.2 y hy2
          refine call_one (S := yStateSpec) rfl _ GaL.rfl ⟨V, _, y, rfl, hV2, ?_⟩
          have c2 : (stateOf (shutOf f k.2).1 y != 2) = false := by rw [hst]; rfl
          simp -dsimp only [Vm.E, List.lookup, Nat.reduceAdd, Nat.reduceBEq, Int.reduceBNe, Int.reduceBEq, Bool.true_beq, Bool.false_beq, sto_place, sto_box, sto_pp, sto_pc, sto_ptr, sto_cells, stoOk_eq, solid_v, solid_sl, solid_agg, solid_eptr, solid_ptr, solid_mp, solid_clo, cells_eptr, put_nil, put_zero, put_succ, bld_nil, bld_cons, bld_some, bsIx_nil, bsIx_cons, bsAll_nil, bsAll_cons, List.length_cons, List.length_nil, Nat.reduceLeDiff, decide_true, Bool.and_self, Bool.and_true, Bool.true_and, take_sc, take_z, eq_self, c2]
          refine kept_intro ⟨l.length - (i + 1), by omega, _, le_mk [(5, .v (.int .i64 y)), (6, .ptr V.iv 0), (28, .sl 2 (l.map doAv)), (29, .v (.int .i64 l.length)), (30, .v (.int .i64 (i + 1 : Nat)))] ?_, i + 1, _, by omega, hV2, hst, by have := shut_n f k.2; omega, rfl⟩
          simp only [List.forall_mem_cons, List.not_mem_nil, false_imp_iff, implies_true, and_true]
          simp -dsimp only [Vm.E, List.lookup, Nat.reduceAdd, Nat.reduceBEq, Int.reduceBNe, Int.reduceBEq, Bool.true_beq, Bool.false_beq, hw]
          exact ⟨.refl _, .refl _, .refl _, .refl _, .refl _⟩
        · simp -dsimp only [Vm.E, List.lookup, Nat.reduceAdd, Nat.reduceBEq, Int.reduceBNe, Int.reduceBEq, Bool.true_beq, Bool.false_beq, sto_place, sto_box, sto_pp, sto_pc, sto_ptr, sto_cells, stoOk_eq, solid_v, solid_sl, solid_agg, solid_eptr, solid_ptr, solid_mp, solid_clo, cells_eptr, put_nil, put_zero, put_succ, bld_nil, bld_cons, bld_some, bsIx_nil, bsIx_cons, bsAll_nil, bsAll_cons, List.length_cons, List.length_nil, Nat.reduceLeDiff, decide_true, Bool.and_self, Bool.and_true, Bool.true_and, take_sc, take_z, eq_self, fo60_1, of3]
          refine call_one (S := yOpenSpec) rfl _ GaL.rfl ⟨V, f, k.2, rfl, hV, fun h2 hV2 _ => ?_⟩
          simp -dsimp only [Vm.E, List.lookup, Nat.reduceAdd, Nat.reduceBEq, Int.reduceBNe, Int.reduceBEq, Bool.true_beq, Bool.false_beq, sto_place, sto_box, sto_pp, sto_pc, sto_ptr, sto_cells, stoOk_eq, solid_v, solid_sl, solid_agg, solid_eptr, solid_ptr, solid_mp, solid_clo, cells_eptr, put_nil, put_zero, put_succ, bld_nil, bld_cons, bld_some, bsIx_nil, bsIx_cons, bsAll_nil, bsAll_cons, List.length_cons, List.length_nil, Nat.reduceLeDiff, decide_true, Bool.and_self, Bool.and_true, Bool.true_and, take_sc, take_z, eq_self]
          have hst : stateOf (openOf f k.2).1 y = 2 := open_stays f k.2 y hy2
          refine call_one (S := yStateSpec) rfl _ GaL.rfl ⟨V, _, y, rfl, hV2, ?_⟩
          have c2 : (stateOf (openOf f k.2).1 y != 2) = false := by rw [hst]; rfl
          simp -dsimp only [Vm.E, List.lookup, Nat.reduceAdd, Nat.reduceBEq, Int.reduceBNe, Int.reduceBEq, Bool.true_beq, Bool.false_beq, sto_place, sto_box, sto_pp, sto_pc, sto_ptr, sto_cells, stoOk_eq, solid_v, solid_sl, solid_agg, solid_eptr, solid_ptr, solid_mp, solid_clo, cells_eptr, put_nil, put_zero, put_succ, bld_nil, bld_cons, bld_some, bsIx_nil, bsIx_cons, bsAll_nil, bsAll_cons, List.length_cons, List.length_nil, Nat.reduceLeDiff, decide_true, Bool.and_self, Bool.and_true, Bool.true_and, take_sc, take_z, eq_self, c2]
          refine kept_intro ⟨l.length - (i + 1), by omega, _, le_mk [(5, .v (.int .i64 y)), (6, .ptr V.iv 0), (28, .sl 2 (l.map doAv)), (29, .v (.int .i64 l.length)), (30, .v (.int .i64 (i + 1 : Nat)))] ?_, i + 1, _, by omega, hV2, hst, by have := open_n f k.2; omega, rfl⟩
          simp only [List.forall_mem_cons, List.not_mem_nil, false_imp_iff, implies_true, and_true]
          simp -dsimp only [Vm.E, List.lookup, Nat.reduceAdd, Nat.reduceBEq, Int.reduceBNe, Int.reduceBEq, Bool.true_beq, Bool.false_beq, hw]
          exact ⟨.refl _, .refl _, .refl _, .refl _, .refl _⟩
      · have hge : ¬ i < l.length := by have := of_decide_eq_false hcc; omega
        simp -dsimp only [Vm.E, List.lookup, Nat.reduceAdd, Nat.reduceBEq, Int.reduceBNe, Int.reduceBEq, Bool.true_beq, Bool.false_beq]
        refine call_one (S := yAllSpec) rfl _ GaL.rfl ⟨V, f, rfl, hV, by omega, fun l' h1 hsc hln hV1 _ => ?_⟩
        have hin : decide (y ∈ allY f l') = true := decide_eq_true (all_has hsc (by omega) (by omega) (by omega))
        have hal : (allY f l').length ≤ l'.length := List.length_filterMap_le ..
        simp -dsimp only [Vm.E, List.lookup, Nat.reduceAdd, Nat.reduceBEq, Int.reduceBNe, Int.reduceBEq, Bool.true_beq, Bool.false_beq]
        refine call_one (S := hasIntSpec) rfl _ GaL.rfl ⟨allY f l', y, by omega, rfl, ?_⟩
        simp -dsimp only [Vm.E, List.lookup, Nat.reduceAdd, Nat.reduceBEq, Int.reduceBNe, Int.reduceBEq, Bool.true_beq, Bool.false_beq, hin]
        refine call_one (S := trueSpec) rfl _ GaL.rfl ⟨rfl, fun h2 => ?_⟩
        simp -dsimp only [Vm.E, List.lookup, Nat.reduceAdd, Nat.reduceBEq, Int.reduceBNe, Int.reduceBEq, Bool.true_beq, Bool.false_beq, Tryz.results5]
        exact hq _
  · simp -dsimp only [Vm.E, List.lookup, Nat.reduceAdd, Nat.reduceBEq, Int.reduceBNe, Int.reduceBEq, Bool.true_beq, Bool.false_beq]
    refine call_one (S := trueSpec) rfl _ GaL.rfl ⟨rfl, fun h2 => ?_⟩
    simp -dsimp only [Vm.E, List.lookup, Nat.reduceAdd, Nat.reduceBEq, Int.reduceBNe, Int.reduceBEq, Bool.true_beq, Bool.false_beq, Tryz.results5]
    exact hq _

/-! Arguments by shape. -/
theorem isA_list {α : Type} {e : Sh} (P : α → Prop) (g : α → AV) (hg : ∀ y, IsA e y → ∃ a, P a ∧ y = g a) {x : AV} (h : IsA (.sl e) x) : ∃ l : List α, l.length ≤ maxLen ∧ x = .sl e.n (l.map g) ∧ ∀ a ∈ l, P a := by
  simp only [IsA] at h
  obtain ⟨xs, hl, rfl, hx⟩ := h
  have : ∃ l : List α, xs = l.map g ∧ ∀ a ∈ l, P a := by
    clear hl
    induction xs with
    | nil => exact ⟨[], rfl, by simp⟩
    | cons y r ih =>
      obtain ⟨l, rfl, hl⟩ := ih fun z hz => hx z (List.mem_cons_of_mem _ hz)
      obtain ⟨a, ha, rfl⟩ := hg y (hx y (List.mem_cons_self ..))
      exact ⟨a :: l, rfl, fun b hb => by
        rcases List.mem_cons.1 hb with rfl | hb
        · exact ha
        · exact hl b hb⟩
  obtain ⟨l, rfl, h1⟩ := this
  exact ⟨l, by simpa using hl, rfl, h1⟩
theorem isA_int {x : AV} (h : IsA (.int .i64) x) : ∃ n, I64 n ∧ x = .v (.int .i64 n) := by
  simp only [IsA] at h
  obtain ⟨n, hn, rfl⟩ := h
  refine ⟨n, ?_, rfl⟩
  simp [Lit.wf, IntKind.min, IntKind.max, IntKind.signed, IntKind.bits] at hn
  unfold I64; omega
theorem isA_u8 {x : AV} (h : IsA (.int .u8) x) : ∃ c : UInt8, x = .v (.int .u8 c.toNat) := by
  simp only [IsA] at h
  obtain ⟨n, hn, rfl⟩ := h
  simp [Lit.wf, IntKind.min, IntKind.max, IntKind.signed, IntKind.bits] at hn
  refine ⟨UInt8.ofNat n.toNat, ?_⟩
  have : ((UInt8.ofNat n.toNat).toNat : Int) = n := by rw [UInt8.toNat_ofNat']; omega
  rw [this]
theorem isA_do {y : AV} (h : IsA (.agg [.int .i64, .int .i64]) y) : ∃ p : Do, (I64 p.1 ∧ I64 p.2) ∧ y = doAv p := by
  simp only [IsA, IsAll] at h
  obtain ⟨ys, ⟨y1, r1, rfl, h1, y2, r2, rfl, h2, rfl⟩, rfl⟩ := h
  obtain ⟨a, ha, rfl⟩ := isA_int (by simpa only [IsA] using h1)
  obtain ⟨b, hb, rfl⟩ := isA_int (by simpa only [IsA] using h2)
  exact ⟨(a, b), ⟨ha, hb⟩, rfl⟩
theorem yStay_args {y0 y1 : AV} (i0 : IsA (.int .u8) y0) (i1 : IsA (.sl (.agg [.int .i64, .int .i64])) y1) {Q : AV → Heap → Prop} (hq : ∀ h', Q (.v (.bool true)) h') : yStaySpec [y0, y1] [] Q := by
  obtain ⟨c, rfl⟩ := isA_u8 i0
  obtain ⟨l, hl, rfl, -⟩ := isA_list _ doAv (fun y hy => isA_do hy) i1
  exact ⟨c, l, hl, rfl, hq⟩

end Go.Proofs.Lx
