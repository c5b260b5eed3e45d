/- Control: ctrl. -/
import Derived.Test.YthfbpdipilajoaaGreatDoorL11
set_option linter.unusedSimpArgs false
set_option linter.unusedVariables false
namespace Go.Proofs.Lx
open Go.Vm
attribute [local irreducible] awpArr awpBin awpMake awpAppend awpCvX awpStrOf awpBinX awpSlice awpBS awpStore awpAlloc awpCopy awpIndex awpDraw awpIdxX awpFa awpField awpLookup awpUpdate awpDelete awpClear awpRange awpNext awpEntry awpBuild

def predSpec (p : Int → Bool) : Vm.Spec := fun args h Q => ∃ n : Int, args = [.v (.int .i64 n)] ∧ Q (.v (.bool (p n))) h
def smallP (n : Int) : Bool := decide (-1152921504606846976 ≤ n) && decide (n ≤ 1152921504606846976)
def figureP (n : Int) : Bool := decide (0 ≤ n) && decide (n ≤ 1152921504606846976)
def withinP (n : Int) : Bool := decide (-9007199254740992 ≤ n) && decide (n ≤ 9007199254740992)

theorem does_small : Does Tryz.prog 258 (predSpec smallP) := by
  refine does_of_awp good_nil Tryz.func258 rfl (by decide +kernel) (by decide +kernel) ?_
  rintro args h Q ⟨n, rfl, hq⟩
  refine ⟨by simp [Tryz.f258], ?_⟩
  rw [awpFunc_some (by rfl)]
  unfold smallP at hq
  simp -dsimp only [Vm.E, List.lookup, Nat.reduceAdd, Nat.reduceBEq, Int.reduceBNe, Int.reduceBEq, Bool.true_beq, Bool.false_beq]
  cases h1 : decide (-1152921504606846976 ≤ n)
  · rw [h1] at hq
    simp -dsimp only [Vm.E, List.lookup, Nat.reduceAdd, Nat.reduceBEq, Int.reduceBNe, Int.reduceBEq, Bool.true_beq, Bool.false_beq, Tryz.results258]
    exact hq
  · rw [h1] at hq
    simp -dsimp only [Vm.E, List.lookup, Nat.reduceAdd, Nat.reduceBEq, Int.reduceBNe, Int.reduceBEq, Bool.true_beq, Bool.false_beq, Tryz.results258]
    exact hq

theorem does_figure : Does Tryz.prog 233 (predSpec figureP) := by
  refine does_of_awp good_nil Tryz.func233 rfl (by decide +kernel) (by decide +kernel) ?_
  rintro args h Q ⟨n, rfl, hq⟩
  refine ⟨by simp [Tryz.f233], ?_⟩
  rw [awpFunc_some (by rfl)]
  unfold figureP at hq
  simp -dsimp only [Vm.E, List.lookup, Nat.reduceAdd, Nat.reduceBEq, Int.reduceBNe, Int.reduceBEq, Bool.true_beq, Bool.false_beq]
  cases h1 : decide (0 ≤ n)
  · rw [h1] at hq
    simp -dsimp only [Vm.E, List.lookup, Nat.reduceAdd, Nat.reduceBEq, Int.reduceBNe, Int.reduceBEq, Bool.true_beq, Bool.false_beq, Tryz.results233]
    exact hq
  · rw [h1] at hq
    simp -dsimp only [Vm.E, List.lookup, Nat.reduceAdd, Nat.reduceBEq, Int.reduceBNe, Int.reduceBEq, Bool.true_beq, Bool.false_beq, Tryz.results233]
    exact hq

theorem does_within : Does Tryz.prog 231 (predSpec withinP) := by
  refine does_of_awp good_nil Tryz.func231 rfl (by decide +kernel) (by decide +kernel) ?_
  rintro args h Q ⟨n, rfl, hq⟩
  refine ⟨by simp [Tryz.f231], ?_⟩
  rw [awpFunc_some (by rfl)]
  unfold withinP at hq
  simp -dsimp only [Vm.E, List.lookup, Nat.reduceAdd, Nat.reduceBEq, Int.reduceBNe, Int.reduceBEq, Bool.true_beq, Bool.false_beq]
  cases h1 : decide (-9007199254740992 ≤ n)
  · rw [h1] at hq
    simp -dsimp only [Vm.E, List.lookup, Nat.reduceAdd, Nat.reduceBEq, Int.reduceBNe, Int.reduceBEq, Bool.true_beq, Bool.false_beq, Tryz.results231]
    exact hq
  · rw [h1] at hq
    simp -dsimp only [Vm.E, List.lookup, Nat.reduceAdd, Nat.reduceBEq, Int.reduceBNe, Int.reduceBEq, Bool.true_beq, Bool.false_beq, Tryz.results231]
    exact hq

def preds : List (FuncId × Vm.Spec) := [(258, predSpec smallP), (233, predSpec figureP), (231, predSpec withinP)]
theorem good_preds : Good (tab preds) := good_cons does_small (good_cons does_figure (good_cons does_within good_nil))
def allSpec : Vm.Spec := fun args h Q => ∃ (f : FuncId) (p : Int → Bool) (l : List Int), tab preds f = some (predSpec p) ∧ l.length ≤ 4611686018427387904 ∧ args = [.clo f [], .sl 1 (l.map encI)] ∧ Q (.v (.bool (l.all p))) h

theorem all_split (p : Int → Bool) (l : List Int) (i : Nat) (hi : i < l.length) : (l.drop i).all p = (p l[i] && (l.drop (i + 1)).all p) := by
  rw [List.drop_eq_getElem_cons hi, List.all_cons]

theorem does_all : Does Tryz.prog 232 allSpec := by
  refine does_of_awp good_preds Tryz.func232 rfl (by decide +kernel) (by decide +kernel) ?_
  rintro args h Q ⟨f, p, l, hT, hl, rfl, hq⟩
  refine ⟨by simp [Tryz.f232], ?_⟩
  rw [awpFunc_some (by rfl)]
  simp -dsimp only [Vm.E, List.lookup, Nat.reduceAdd, Nat.reduceBEq, Int.reduceBNe, Int.reduceBEq, Bool.true_beq, Bool.false_beq, Tryz.underlying41]
  refine awp_loop (fun m s h' => ∃ i : Nat, i + m = l.length ∧ h' = h ∧ (l.drop i).all p = l.all p ∧ s = mk [(0, .clo f []), (7, .sl 1 (l.map encI)), (8, .v (.int .i64 l.length)), (9, .v (.int .i64 i))])
    l.length _ (le_mk _ ?_) ⟨0, by omega, rfl, rfl, rfl⟩ ?_
  · simp only [List.forall_mem_cons, List.not_mem_nil, false_imp_iff, implies_true, and_true]
    simp -dsimp only [Vm.E, List.lookup, Nat.reduceAdd, Nat.reduceBEq, Int.reduceBNe, Int.reduceBEq, Bool.true_beq, Bool.false_beq]
    exact ⟨.refl _, .refl _, .refl _, .refl _⟩
  · rintro m s h' ⟨i, hi, rfl, hp, rfl⟩
    simp -dsimp only [Vm.E, List.lookup, Nat.reduceAdd, Nat.reduceBEq, Int.reduceBNe, Int.reduceBEq, Bool.true_beq, Bool.false_beq]
    refine cond_intro (fun hc => ?_) (fun hc => ?_)
    · have hlt : i < l.length := by have := of_decide_eq_true hc; omega
      rw [all_split p l i hlt] at hp
      simp -dsimp only [Vm.E, List.lookup, Nat.reduceAdd, Nat.reduceBEq, Int.reduceBNe, Int.reduceBEq, Bool.true_beq, Bool.false_beq, es41, as41]
      refine idx_ints l i hlt ?_
      simp -dsimp only [Vm.E, List.lookup, Nat.reduceAdd, Nat.reduceBEq, Int.reduceBNe, Int.reduceBEq, Bool.true_beq, Bool.false_beq, of3]
      refine call_one (S := predSpec p) hT _ GaL.rfl ⟨l[i], rfl, ?_⟩
      simp -dsimp only [Vm.E, List.lookup, Nat.reduceAdd, Nat.reduceBEq, Int.reduceBNe, Int.reduceBEq, Bool.true_beq, Bool.false_beq]
      cases hpi : p l[i]
      · rw [hpi] at hp
        simp -dsimp only [Vm.E, List.lookup, Nat.reduceAdd, Nat.reduceBEq, Int.reduceBNe, Int.reduceBEq, Bool.true_beq, Bool.false_beq, Tryz.results232]
        rw [← hp] at hq
        exact hq
      · rw [hpi] at hp
        have hw : IntKind.i64.wrap ((i : Int) + 1) = ((i + 1 : Nat) : Int) := by rw [wrap_i64 (by omega) (by omega)]; simp
        simp -dsimp only [Vm.E, List.lookup, Nat.reduceAdd, Nat.reduceBEq, Int.reduceBNe, Int.reduceBEq, Bool.true_beq, Bool.false_beq]
        refine kept_intro ⟨l.length - (i + 1), by omega, _, le_mk [(0, .clo f []), (7, .sl 1 (l.map encI)), (8, .v (.int .i64 l.length)), (9, .v (.int .i64 (i + 1 : Nat)))] ?_, i + 1, by omega, rfl, by simpa using hp, rfl⟩
        simp only [List.forall_mem_cons, List.not_mem_nil, false_imp_iff, implies_true, and_true]
        simp -dsimp only [Vm.E, List.lookup, Nat.reduceAdd, Nat.reduceBEq, Int.reduceBNe, Int.reduceBEq, Bool.true_beq, Bool.false_beq, hw]
        exact ⟨.refl _, .refl _, .refl _, .refl _⟩
    · have hge : ¬ i < l.length := by have := of_decide_eq_false hc; omega
      simp -dsimp only [Vm.E, List.lookup, Nat.reduceAdd, Nat.reduceBEq, Int.reduceBNe, Int.reduceBEq, Bool.true_beq, Bool.false_beq, Tryz.results232]
      rw [List.drop_of_length_le (by omega)] at hp
      rw [← hp] at hq
      exact hq

abbrev w64 (n : Int) : Int := IntKind.i64.wrap n
def usedOf (n : Nd) : Int := w64 (w64 (n.pre + n.enc) + n.exp)
def usedSpec : Vm.Spec := fun args h Q => ∃ n, args = [.agg (ndCells n)] ∧ Q (.v (.int .i64 (usedOf n))) h
theorem does_used : Does Tryz.prog 56 usedSpec := by
  refine does_of_awp good_nil Tryz.func56 rfl (by decide +kernel) (by decide +kernel) ?_
  rintro args h Q ⟨n, rfl, hq⟩
  refine ⟨by simp [Tryz.f56], ?_⟩
  rw [awpFunc_some (by rfl)]
  simp -dsimp only [Vm.E, List.lookup, Nat.reduceAdd, Nat.reduceBEq, Int.reduceBNe, Int.reduceBEq, Bool.true_beq, Bool.false_beq, sto_place, sto_box, sto_pp, sto_pc, sto_ptr, sto_cells, stoOk_eq, solid_v, solid_sl, solid_agg, solid_eptr, solid_ptr, solid_mp, solid_clo, cells_eptr, put_nil, put_zero, put_succ, bld_nil, bld_cons, bld_some, bsIx_nil, bsIx_cons, bsAll_nil, bsAll_cons, List.length_cons, List.length_nil, Nat.reduceLeDiff, decide_true, Bool.and_self, Bool.and_true, Bool.true_and, take_sc, take_z, eq_self, ndCells, fo25_7, fo25_8, fo25_9, of3, Tryz.results56]
  exact hq

/-- Whether a node may use more, and whether it must warn. -/
def allowsOf (n : Nd) (more : Int) : Bool × Bool :=
  if more > 1152921504606846976 ∨ ¬ (smallP (usedOf n) = true ∧ smallP n.limit = true) then (false, false)
  else if more < 1 ∨ more ≤ w64 (n.limit - usedOf n) then (true, false)
  else (!n.abs, !n.abs)
def allowsSpec : Vm.Spec := fun args h Q => ∃ n more, args = [.agg (ndCells n), .v (.int .i64 more)] ∧ Q (.tup [.v (.bool (allowsOf n more).1), .v (.bool (allowsOf n more).2)]) h

theorem does_allows : Does Tryz.prog 234 allowsSpec := by
  refine does_of_awp (good_cons does_used (good_cons does_all good_nil)) Tryz.func234 rfl (by decide +kernel) (by decide +kernel) ?_
  rintro args h Q ⟨n, more, rfl, hq⟩
  refine ⟨by simp [Tryz.f234], ?_⟩
  rw [awpFunc_some (by rfl)]
  unfold allowsOf at hq
  simp -dsimp only [Vm.E, List.lookup, Nat.reduceAdd, Nat.reduceBEq, Int.reduceBNe, Int.reduceBEq, Bool.true_beq, Bool.false_beq, sto_place, sto_box, sto_pp, sto_pc, sto_ptr, sto_cells, stoOk_eq, solid_v, solid_sl, solid_agg, solid_eptr, solid_ptr, solid_mp, solid_clo, cells_eptr, put_nil, put_zero, put_succ, bld_nil, bld_cons, bld_some, bsIx_nil, bsIx_cons, bsAll_nil, bsAll_cons, List.length_cons, List.length_nil, Nat.reduceLeDiff, decide_true, Bool.and_self, Bool.and_true, Bool.true_and, take_sc, take_z, eq_self, ndCells, of25]
  refine call_one (S := usedSpec) rfl _ GaL.rfl ⟨n, rfl, ?_⟩
  simp -dsimp only [Vm.E, List.lookup, Nat.reduceAdd, Nat.reduceBEq, Int.reduceBNe, Int.reduceBEq, Bool.true_beq, Bool.false_beq]
  cases c1 : decide (more > 1152921504606846976)
  · have d1 : ¬ more > 1152921504606846976 := of_decide_eq_false c1
    simp -dsimp only [Vm.E, List.lookup, Nat.reduceAdd, Nat.reduceBEq, Int.reduceBNe, Int.reduceBEq, Bool.true_beq, Bool.false_beq, sto_place, sto_box, sto_pp, sto_pc, sto_ptr, sto_cells, stoOk_eq, solid_v, solid_sl, solid_agg, solid_eptr, solid_ptr, solid_mp, solid_clo, cells_eptr, put_nil, put_zero, put_succ, bld_nil, bld_cons, bld_some, bsIx_nil, bsIx_cons, bsAll_nil, bsAll_cons, List.length_cons, List.length_nil, Nat.reduceLeDiff, decide_true, Bool.and_self, Bool.and_true, Bool.true_and, take_sc, take_z, eq_self, fo25_6, of3, es41]
    refine bs_intro zr3 (by decide) (by decide) rfl rfl (by simp [solid, AV.cells]) ?_
    simp -dsimp only [Vm.E, List.lookup, Nat.reduceAdd, Nat.reduceBEq, Int.reduceBNe, Int.reduceBEq, Bool.true_beq, Bool.false_beq]
    refine call_one (S := allSpec) rfl _ GaL.rfl ⟨258, smallP, [usedOf n, n.limit], rfl, by simp, rfl, ?_⟩
    simp only [List.all_cons, List.all_nil, Bool.and_true]
    cases c2 : (smallP (usedOf n) && smallP n.limit)
    · have d2 : ¬ (smallP (usedOf n) = true ∧ smallP n.limit = true) := fun hc => by rw [hc.1, hc.2] at c2; cases c2
      rw [if_pos (.inr d2)] at hq
      simp -dsimp only [Vm.E, List.lookup, Nat.reduceAdd, Nat.reduceBEq, Int.reduceBNe, Int.reduceBEq, Bool.true_beq, Bool.false_beq, Tryz.results234]
      exact hq
    · have d2 : smallP (usedOf n) = true ∧ smallP n.limit = true := by simpa using c2
      rw [if_neg fun hc => hc.elim d1 fun hc => hc d2] at hq
      simp -dsimp only [Vm.E, List.lookup, Nat.reduceAdd, Nat.reduceBEq, Int.reduceBNe, Int.reduceBEq, Bool.true_beq, Bool.false_beq]
      cases c3 : decide (more < 1)
      · have d3 : ¬ more < 1 := of_decide_eq_false c3
        simp -dsimp only [Vm.E, List.lookup, Nat.reduceAdd, Nat.reduceBEq, Int.reduceBNe, Int.reduceBEq, Bool.true_beq, Bool.false_beq, sto_place, sto_box, sto_pp, sto_pc, sto_ptr, sto_cells, stoOk_eq, solid_v, solid_sl, solid_agg, solid_eptr, solid_ptr, solid_mp, solid_clo, cells_eptr, put_nil, put_zero, put_succ, bld_nil, bld_cons, bld_some, bsIx_nil, bsIx_cons, bsAll_nil, bsAll_cons, List.length_cons, List.length_nil, Nat.reduceLeDiff, decide_true, Bool.and_self, Bool.and_true, Bool.true_and, take_sc, take_z, eq_self, fo25_6, of3]
        cases c4 : decide (more ≤ IntKind.i64.wrap (n.limit - usedOf n))
        · have d4 := of_decide_eq_false c4
          rw [if_neg fun hc => hc.elim d3 d4] at hq
          simp -dsimp only [Vm.E, List.lookup, Nat.reduceAdd, Nat.reduceBEq, Int.reduceBNe, Int.reduceBEq, Bool.true_beq, Bool.false_beq]
          refine draw_pub [2] (.take 0 (.take 1 (.take 2 (.take 3 (.take 4 (.take 5 (.alt 6 (.alt 7 (.done) .stop) .stop))))))) (by kernel_rfl) (by kernel_rfl) (by kernel_rfl) (by decide) ?_
          simp -dsimp only [Vm.E, List.lookup, Nat.reduceAdd, Nat.reduceBEq, Int.reduceBNe, Int.reduceBEq, Bool.true_beq, Bool.false_beq, sto_place, sto_box, sto_pp, sto_pc, sto_ptr, sto_cells, stoOk_eq, solid_v, solid_sl, solid_agg, solid_eptr, solid_ptr, solid_mp, solid_clo, cells_eptr, put_nil, put_zero, put_succ, bld_nil, bld_cons, bld_some, bsIx_nil, bsIx_cons, bsAll_nil, bsAll_cons, List.length_cons, List.length_nil, Nat.reduceLeDiff, decide_true, Bool.and_self, Bool.and_true, Bool.true_and, take_sc, take_z, eq_self, fo25_5, of4, Tryz.results234]
          exact hq
        · have d4 := of_decide_eq_true c4
          rw [if_pos (.inr d4)] at hq
          simp -dsimp only [Vm.E, List.lookup, Nat.reduceAdd, Nat.reduceBEq, Int.reduceBNe, Int.reduceBEq, Bool.true_beq, Bool.false_beq, Tryz.results234]
          exact hq
      · have d3 := of_decide_eq_true c3
        rw [if_pos (.inl d3)] at hq
        simp -dsimp only [Vm.E, List.lookup, Nat.reduceAdd, Nat.reduceBEq, Int.reduceBNe, Int.reduceBEq, Bool.true_beq, Bool.false_beq, Tryz.results234]
        exact hq
  · have d1 := of_decide_eq_true c1
    rw [if_pos (.inl d1)] at hq
    simp -dsimp only [Vm.E, List.lookup, Nat.reduceAdd, Nat.reduceBEq, Int.reduceBNe, Int.reduceBEq, Bool.true_beq, Bool.false_beq, Tryz.results234]
    exact hq

structure Chg where
  pre : Int
  enc : Int
  exp : Int
def chgCells (c : Chg) : List AV := [.v (.int .i64 c.pre), .v (.int .i64 c.enc), .v (.int .i64 c.exp)]
def chgRight (c : Chg) : Bool := withinP c.pre && withinP c.enc && withinP c.exp
def chgRightSpec : Vm.Spec := fun args h Q => ∃ c, args = [.agg (chgCells c)] ∧ Q (.v (.bool (chgRight c))) h
theorem does_chgRight : Does Tryz.prog 197 chgRightSpec := by
  refine does_of_awp (good_cons does_all good_nil) Tryz.func197 rfl (by decide +kernel) (by decide +kernel) ?_
  rintro args h Q ⟨c, rfl, hq⟩
  refine ⟨by simp [Tryz.f197], ?_⟩
  rw [awpFunc_some (by rfl)]
  simp -dsimp only [Vm.E, List.lookup, Nat.reduceAdd, Nat.reduceBEq, Int.reduceBNe, Int.reduceBEq, Bool.true_beq, Bool.false_beq, sto_place, sto_box, sto_pp, sto_pc, sto_ptr, sto_cells, stoOk_eq, solid_v, solid_sl, solid_agg, solid_eptr, solid_ptr, solid_mp, solid_clo, cells_eptr, put_nil, put_zero, put_succ, bld_nil, bld_cons, bld_some, bsIx_nil, bsIx_cons, bsAll_nil, bsAll_cons, List.length_cons, List.length_nil, Nat.reduceLeDiff, decide_true, Bool.and_self, Bool.and_true, Bool.true_and, take_sc, take_z, eq_self, chgCells, fo229_0, fo229_1, fo229_2, of3, es41]
  refine bs_intro zr3 (by decide) (by decide) rfl rfl (by simp [solid, AV.cells]) ?_
  simp -dsimp only [Vm.E, List.lookup, Nat.reduceAdd, Nat.reduceBEq, Int.reduceBNe, Int.reduceBEq, Bool.true_beq, Bool.false_beq]
  refine call_one (S := allSpec) rfl _ GaL.rfl ⟨231, withinP, [c.pre, c.enc, c.exp], rfl, by simp, rfl, ?_⟩
  simp -dsimp only [Vm.E, List.lookup, Nat.reduceAdd, Nat.reduceBEq, Int.reduceBNe, Int.reduceBEq, Bool.true_beq, Bool.false_beq, Tryz.results197]
  have e : [c.pre, c.enc, c.exp].all withinP = chgRight c := by simp [chgRight, Bool.and_assoc]
  rw [e]
  exact hq

def figs (n : Nd) : Bool := figureP n.pre && figureP n.enc && figureP n.exp
def addC (c : Chg) (n : Nd) : Nd := { n with pre := w64 (n.pre + c.pre), enc := w64 (n.enc + c.enc), exp := w64 (n.exp + c.exp) }
def chgSum (c : Chg) : Int := w64 (w64 (c.pre + c.enc) + c.exp)
/-- A node behind a charge; whether there is a warning; the error. -/
def atOf (c : Chg) (n : Nd) : Nd × Bool × Int :=
  if figs n = false then (.zero, false, 9)
  else if figs (addC c n) = false then (.zero, false, 9)
  else if (allowsOf n (chgSum c)).1 = false then (.zero, false, 11)
  else (addC c n, (allowsOf n (chgSum c)).2, 0)
def atSpec : Vm.Spec := fun args h Q => ∃ c n, args = [.agg (chgCells c), .agg (ndCells n)] ∧ Q (.tup [.agg (ndCells (atOf c n).1), .v (.bool (atOf c n).2.1), .v (.int .i64 (atOf c n).2.2)]) h

set_option maxRecDepth 20000 in
theorem does_at : Does Tryz.prog 198 atSpec := by
  refine does_of_awp (good_cons does_all (good_cons does_allows good_nil)) Tryz.func198 rfl (by decide +kernel) (by decide +kernel) ?_
  rintro args h Q ⟨c, n, rfl, hq⟩
  refine ⟨by simp [Tryz.f198], ?_⟩
  rw [awpFunc_some (by rfl)]
  unfold atOf at hq
  simp -dsimp only [Vm.E, List.lookup, Nat.reduceAdd, Nat.reduceBEq, Int.reduceBNe, Int.reduceBEq, Bool.true_beq, Bool.false_beq, sto_place, sto_box, sto_pp, sto_pc, sto_ptr, sto_cells, stoOk_eq, solid_v, solid_sl, solid_agg, solid_eptr, solid_ptr, solid_mp, solid_clo, cells_eptr, put_nil, put_zero, put_succ, bld_nil, bld_cons, bld_some, bsIx_nil, bsIx_cons, bsAll_nil, bsAll_cons, List.length_cons, List.length_nil, Nat.reduceLeDiff, decide_true, Bool.and_self, Bool.and_true, Bool.true_and, take_sc, take_z, eq_self, ndCells, chgCells, al25, fo25_7, fo25_8, fo25_9, of3, es41]
  refine bs_intro zr3 (by decide) (by decide) rfl rfl (by simp [solid, AV.cells]) ?_
  simp -dsimp only [Vm.E, List.lookup, Nat.reduceAdd, Nat.reduceBEq, Int.reduceBNe, Int.reduceBEq, Bool.true_beq, Bool.false_beq]
  refine call_one (S := allSpec) rfl _ GaL.rfl ⟨233, figureP, [n.pre, n.enc, n.exp], rfl, by simp, rfl, ?_⟩
  have e1 : [n.pre, n.enc, n.exp].all figureP = figs n := by simp [figs, Bool.and_assoc]
  simp only [e1]
  cases c1 : figs n
  · rw [if_pos c1] at hq
    simp -dsimp only [Vm.E, List.lookup, Nat.reduceAdd, Nat.reduceBEq, Int.reduceBNe, Int.reduceBEq, Bool.true_beq, Bool.false_beq, sto_place, sto_box, sto_pp, sto_pc, sto_ptr, sto_cells, stoOk_eq, solid_v, solid_sl, solid_agg, solid_eptr, solid_ptr, solid_mp, solid_clo, cells_eptr, put_nil, put_zero, put_succ, bld_nil, bld_cons, bld_some, bsIx_nil, bsIx_cons, bsAll_nil, bsAll_cons, List.length_cons, List.length_nil, Nat.reduceLeDiff, decide_true, Bool.and_self, Bool.and_true, Bool.true_and, take_sc, take_z, eq_self, bd25, sz25, of25, Tryz.results198]
    exact hq
  · rw [if_neg (by rw [c1]; decide)] at hq
    simp -dsimp only [Vm.E, List.lookup, Nat.reduceAdd, Nat.reduceBEq, Int.reduceBNe, Int.reduceBEq, Bool.true_beq, Bool.false_beq, sto_place, sto_box, sto_pp, sto_pc, sto_ptr, sto_cells, stoOk_eq, solid_v, solid_sl, solid_agg, solid_eptr, solid_ptr, solid_mp, solid_clo, cells_eptr, put_nil, put_zero, put_succ, bld_nil, bld_cons, bld_some, bsIx_nil, bsIx_cons, bsAll_nil, bsAll_cons, List.length_cons, List.length_nil, Nat.reduceLeDiff, decide_true, Bool.and_self, Bool.and_true, Bool.true_and, take_sc, take_z, eq_self, al25, of25, sz25, sz3, fo25_7, fo25_8, fo25_9, fo229_0, fo229_1, fo229_2, of3, es41]
    refine bs_intro zr3 (by decide) (by decide) rfl rfl (by simp [solid, AV.cells]) ?_
    simp -dsimp only [Vm.E, List.lookup, Nat.reduceAdd, Nat.reduceBEq, Int.reduceBNe, Int.reduceBEq, Bool.true_beq, Bool.false_beq]
    refine call_one (S := allSpec) rfl _ GaL.rfl ⟨233, figureP, [(addC c n).pre, (addC c n).enc, (addC c n).exp], rfl, by simp, rfl, ?_⟩
    have e2 : [(addC c n).pre, (addC c n).enc, (addC c n).exp].all figureP = figs (addC c n) := by simp [figs, Bool.and_assoc]
    simp only [e2]
    cases c2 : figs (addC c n)
    · rw [if_pos c2] at hq
      simp -dsimp only [Vm.E, List.lookup, Nat.reduceAdd, Nat.reduceBEq, Int.reduceBNe, Int.reduceBEq, Bool.true_beq, Bool.false_beq, sto_place, sto_box, sto_pp, sto_pc, sto_ptr, sto_cells, stoOk_eq, solid_v, solid_sl, solid_agg, solid_eptr, solid_ptr, solid_mp, solid_clo, cells_eptr, put_nil, put_zero, put_succ, bld_nil, bld_cons, bld_some, bsIx_nil, bsIx_cons, bsAll_nil, bsAll_cons, List.length_cons, List.length_nil, Nat.reduceLeDiff, decide_true, Bool.and_self, Bool.and_true, Bool.true_and, take_sc, take_z, eq_self, bd25, sz25, of25, Tryz.results198]
      exact hq
    · rw [if_neg (by rw [c2]; decide)] at hq
      simp -dsimp only [Vm.E, List.lookup, Nat.reduceAdd, Nat.reduceBEq, Int.reduceBNe, Int.reduceBEq, Bool.true_beq, Bool.false_beq, sto_place, sto_box, sto_pp, sto_pc, sto_ptr, sto_cells, stoOk_eq, solid_v, solid_sl, solid_agg, solid_eptr, solid_ptr, solid_mp, solid_clo, cells_eptr, put_nil, put_zero, put_succ, bld_nil, bld_cons, bld_some, bsIx_nil, bsIx_cons, bsAll_nil, bsAll_cons, List.length_cons, List.length_nil, Nat.reduceLeDiff, decide_true, Bool.and_self, Bool.and_true, Bool.true_and, take_sc, take_z, eq_self, of25, fo229_0, fo229_1, fo229_2, of3]
      refine call_one (S := allowsSpec) rfl _ GaL.rfl ⟨n, chgSum c, rfl, ?_⟩
      simp -dsimp only [Vm.E, List.lookup, Nat.reduceAdd, Nat.reduceBEq, Int.reduceBNe, Int.reduceBEq, Bool.true_beq, Bool.false_beq]
      cases c3 : (allowsOf n (chgSum c)).1
      · rw [if_pos c3] at hq
        simp -dsimp only [Vm.E, List.lookup, Nat.reduceAdd, Nat.reduceBEq, Int.reduceBNe, Int.reduceBEq, Bool.true_beq, Bool.false_beq, sto_place, sto_box, sto_pp, sto_pc, sto_ptr, sto_cells, stoOk_eq, solid_v, solid_sl, solid_agg, solid_eptr, solid_ptr, solid_mp, solid_clo, cells_eptr, put_nil, put_zero, put_succ, bld_nil, bld_cons, bld_some, bsIx_nil, bsIx_cons, bsAll_nil, bsAll_cons, List.length_cons, List.length_nil, Nat.reduceLeDiff, decide_true, Bool.and_self, Bool.and_true, Bool.true_and, take_sc, take_z, eq_self, bd25, sz25, of25, Tryz.results198]
        exact hq
      · rw [if_neg (by rw [c3]; decide)] at hq
        simp -dsimp only [Vm.E, List.lookup, Nat.reduceAdd, Nat.reduceBEq, Int.reduceBNe, Int.reduceBEq, Bool.true_beq, Bool.false_beq, sto_place, sto_box, sto_pp, sto_pc, sto_ptr, sto_cells, stoOk_eq, solid_v, solid_sl, solid_agg, solid_eptr, solid_ptr, solid_mp, solid_clo, cells_eptr, put_nil, put_zero, put_succ, bld_nil, bld_cons, bld_some, bsIx_nil, bsIx_cons, bsAll_nil, bsAll_cons, List.length_cons, List.length_nil, Nat.reduceLeDiff, decide_true, Bool.and_self, Bool.and_true, Bool.true_and, take_sc, take_z, eq_self, sz25, of25, Tryz.results198]
        exact hq

end Go.Proofs.Lx
