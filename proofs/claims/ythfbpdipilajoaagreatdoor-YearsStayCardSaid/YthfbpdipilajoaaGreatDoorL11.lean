/- The tree of nodes, and control: tree, ctrl. -/
import Derived.Test.YthfbpdipilajoaaGreatDoorL10
set_option linter.unusedSimpArgs false
set_option linter.unusedVariables false
namespace Go.Proofs.Lx
open Go.Vm
attribute [local irreducible] awpArr awpBin awpMake awpAppend awpCvX awpStrOf awpBinX awpSlice awpBS awpStore awpAlloc awpCopy awpIndex awpDraw awpIdxX awpFa awpField awpLookup awpUpdate awpDelete awpClear awpRange awpNext awpEntry awpBuild

/-- What a key has, as bytes that are there. -/
def vgetWSpec : Vm.Spec := fun args h Q => ∃ V f k, args = [.ptr V.iv 0, .sl 1 (k.map encB)] ∧ isView h V f ∧ (∀ l, f k = some l → Q (.tup [.sl 1 (l.map encB), .v (.bool true)]) h) ∧ (f k = none → Q (.tup [.sl 1 [], .v (.bool false)]) h)
theorem does_vgetW : Does Tryz.prog 153 vgetWSpec := by
  refine does_vget.weak.imp ?_
  rintro args h Q ⟨V, f, k, rfl, hV, hq1, hq2⟩
  exact ⟨V, f, k, rfl, hV, fun x l hx hf => ⟨_, .tup (.cons hx.ga GaL.rfl), hq1 l hf⟩, fun x hx hf => ⟨_, .tup (.cons hx.ga GaL.rfl), hq2 hf⟩⟩

def ndK (n : Nd) : List UInt8 := keyOf 78 (ndKey n)
def ndV (n : Nd) : List UInt8 := packOf (ndVal n)
theorem ndK_length (n : Nd) : (ndK n).length = 9 := by simp [ndK, keyOf, ndKey, packs, be_length]
theorem ndV_length (n : Nd) : (ndV n).length = 80 := by simp [ndV, packOf, ndVal, packs, be_length]
theorem right_nd (n : Nd) : rightKV (ndK n) (ndV n) = true := by
  simp [rightKV, ndK_length, ndV_length]

def tputSpec : Vm.Spec := fun args h Q => ∃ V f n, args = [.ptr V.iv 0, .agg (ndCells n)] ∧ n.ok ∧ isView h V f ∧ ∀ h', isView h' V (upd f (ndK n) (some (ndV n))) → Same h h' [V.ic] → Q (.v (.int .i64 0)) h'

theorem does_tput : Does Tryz.prog 53 tputSpec := by
  refine does_of_awp (good_cons does_node (good_cons does_vput good_nil)) Tryz.func53 rfl (by decide +kernel) (by decide +kernel) ?_
  rintro args h Q ⟨V, f, n, rfl, hn, hV, hq⟩
  refine ⟨by simp [Tryz.f53], ?_⟩
  rw [awpFunc_some (by rfl)]
  simp -dsimp only [Vm.E, List.lookup, Nat.reduceAdd, Nat.reduceBEq, Int.reduceBNe, Int.reduceBEq, Bool.true_beq, Bool.false_beq, sto_place, sto_box, sto_pp, sto_pc, sto_ptr, sto_cells, stoOk_eq, solid_v, solid_sl, solid_agg, solid_eptr, solid_ptr, solid_mp, solid_clo, cells_eptr, put_nil, put_zero, put_succ, bld_nil, bld_cons, bld_some, bsIx_nil, bsIx_cons, bsAll_nil, bsAll_cons, List.length_cons, List.length_nil, Nat.reduceLeDiff, decide_true, Bool.and_self, Bool.and_true, Bool.true_and, take_sc, take_z, eq_self, ndCells, of25]
  refine call_one (S := nodeSpec) rfl _ GaL.rfl ⟨n, hn, rfl, ?_⟩
  simp -dsimp only [Vm.E, List.lookup, Nat.reduceAdd, Nat.reduceBEq, Int.reduceBNe, Int.reduceBEq, Bool.true_beq, Bool.false_beq, sto_place, sto_box, sto_pp, sto_pc, sto_ptr, sto_cells, stoOk_eq, solid_v, solid_sl, solid_agg, solid_eptr, solid_ptr, solid_mp, solid_clo, cells_eptr, put_nil, put_zero, put_succ, bld_nil, bld_cons, bld_some, bsIx_nil, bsIx_cons, bsAll_nil, bsAll_cons, List.length_cons, List.length_nil, Nat.reduceLeDiff, decide_true, Bool.and_self, Bool.and_true, Bool.true_and, take_sc, take_z, eq_self, al47, sz47, fo47_0, fo47_1, of45]
  refine call_one (S := vputSpec) rfl _ GaL.rfl ⟨V, f, ndK n, ndV n, rfl, hV, fun _ h' g1 g2 => ?_, fun hc => by rw [right_nd] at hc; cases hc⟩
  simp -dsimp only [Vm.E, List.lookup, Nat.reduceAdd, Nat.reduceBEq, Int.reduceBNe, Int.reduceBEq, Bool.true_beq, Bool.false_beq, Tryz.results53]
  exact hq h' g1 g2

/-- The node that stands at a year and a number. -/
def nodeAt (f : Fun) (year id : Int) : Option Nd :=
  match f (keyOf 78 [year, id]) with
  | none => none
  | some val => match nodeOf (keyOf 78 [year, id]) val with
    | some n => if n.year = year ∧ n.id = id then some n else none
    | none => none

def tnodeSpec : Vm.Spec := fun args h Q => ∃ V f year id, args = [.agg [.ptr V.iv 0, .v (.int .i64 year)], .v (.int .i64 id)] ∧ isView h V f ∧
  (∀ n, nodeAt f year id = some n → Q (.tup [.agg (ndCells n), .v (.bool true)]) h) ∧ (nodeAt f year id = none → Q (.tup [.agg (ndCells .zero), .v (.bool false)]) h)

theorem key2_length (t : UInt8) (a b : Int) : (keyOf t [a, b]).length = 9 := by simp [keyOf, packs, be_length]

theorem does_tnode : Does Tryz.prog 86 tnodeSpec := by
  refine does_of_awp (good_cons does_key (good_cons does_vgetW (good_cons does_nodeOf good_nil))) Tryz.func86 rfl (by decide +kernel) (by decide +kernel) ?_
  rintro args h Q ⟨V, f, year, id, rfl, hV, hq1, hq2⟩
  refine ⟨by simp [Tryz.f86], ?_⟩
  rw [awpFunc_some (by rfl)]
  unfold nodeAt at hq1 hq2
  simp -dsimp only [Vm.E, List.lookup, Nat.reduceAdd, Nat.reduceBEq, Int.reduceBNe, Int.reduceBEq, Bool.true_beq, Bool.false_beq, sto_place, sto_box, sto_pp, sto_pc, sto_ptr, sto_cells, stoOk_eq, solid_v, solid_sl, solid_agg, solid_eptr, solid_ptr, solid_mp, solid_clo, cells_eptr, put_nil, put_zero, put_succ, bld_nil, bld_cons, bld_some, bsIx_nil, bsIx_cons, bsAll_nil, bsAll_cons, List.length_cons, List.length_nil, Nat.reduceLeDiff, decide_true, Bool.and_self, Bool.and_true, Bool.true_and, take_sc, take_z, eq_self, al25, fo117_1, of3, es41]
  refine bs_intro zr3 (by decide) (by decide) rfl rfl (by simp [solid, AV.cells]) ?_
  simp -dsimp only [Vm.E, List.lookup, Nat.reduceAdd, Nat.reduceBEq, Int.reduceBNe, Int.reduceBEq, Bool.true_beq, Bool.false_beq]
  refine call_one (S := keySpec) rfl _ GaL.rfl ⟨78, [year, id], by simp, rfl, ?_⟩
  simp -dsimp only [Vm.E, List.lookup, Nat.reduceAdd, Nat.reduceBEq, Int.reduceBNe, Int.reduceBEq, Bool.true_beq, Bool.false_beq, fo117_0, of26]
  have hk := key2_length 78 year id
  generalize keyOf 78 [year, id] = key at hk hq1 hq2 ⊢
  refine call_one (S := vgetWSpec) rfl _ GaL.rfl ⟨V, f, key, rfl, hV, fun val hf => ?_, fun hf => ?_⟩
  · have hvl := hV.len _ _ hf
    rw [hf] at hq1 hq2
    simp -dsimp only [Vm.E, List.lookup, Nat.reduceAdd, Nat.reduceBEq, Int.reduceBNe, Int.reduceBEq, Bool.true_beq, Bool.false_beq, sto_place, sto_box, sto_pp, sto_pc, sto_ptr, sto_cells, stoOk_eq, solid_v, solid_sl, solid_agg, solid_eptr, solid_ptr, solid_mp, solid_clo, cells_eptr, put_nil, put_zero, put_succ, bld_nil, bld_cons, bld_some, bsIx_nil, bsIx_cons, bsAll_nil, bsAll_cons, List.length_cons, List.length_nil, Nat.reduceLeDiff, decide_true, Bool.and_self, Bool.and_true, Bool.true_and, take_sc, take_z, eq_self, bd47]
    refine call_one (S := nodeOfSpec) rfl _ GaL.rfl ⟨key, val, by omega, by omega, rfl, fun n hn => ?_, fun hn => ?_⟩
    · have hq1 : ∀ m, (if n.year = year ∧ n.id = id then some n else none) = some m → Q (.tup [.agg (ndCells m), .v (.bool true)]) h := fun m hm => hq1 m (by simp only [hn]; exact hm)
      have hq2 : (if n.year = year ∧ n.id = id then some n else none) = none → Q (.tup [.agg (ndCells .zero), .v (.bool false)]) h := fun hm => hq2 (by simp only [hn]; exact hm)
      simp -dsimp only [Vm.E, List.lookup, Nat.reduceAdd, Nat.reduceBEq, Int.reduceBNe, Int.reduceBEq, Bool.true_beq, Bool.false_beq, sto_place, sto_box, sto_pp, sto_pc, sto_ptr, sto_cells, stoOk_eq, solid_v, solid_sl, solid_agg, solid_eptr, solid_ptr, solid_mp, solid_clo, cells_eptr, put_nil, put_zero, put_succ, bld_nil, bld_cons, bld_some, bsIx_nil, bsIx_cons, bsAll_nil, bsAll_cons, List.length_cons, List.length_nil, Nat.reduceLeDiff, decide_true, Bool.and_self, Bool.and_true, Bool.true_and, take_sc, take_z, eq_self, ndCells, al25, sz25, fo25_0, of3, fo117_1]
      cases c1 : (n.year != year)
      · have d1 : n.year = year := by simpa using c1
        simp -dsimp only [Vm.E, List.lookup, Nat.reduceAdd, Nat.reduceBEq, Int.reduceBNe, Int.reduceBEq, Bool.true_beq, Bool.false_beq, sto_place, sto_box, sto_pp, sto_pc, sto_ptr, sto_cells, stoOk_eq, solid_v, solid_sl, solid_agg, solid_eptr, solid_ptr, solid_mp, solid_clo, cells_eptr, put_nil, put_zero, put_succ, bld_nil, bld_cons, bld_some, bsIx_nil, bsIx_cons, bsAll_nil, bsAll_cons, List.length_cons, List.length_nil, Nat.reduceLeDiff, decide_true, Bool.and_self, Bool.and_true, Bool.true_and, take_sc, take_z, eq_self, fo25_1, of3]
        cases c2 : (n.id != id)
        · have d2 : n.id = id := by simpa using c2
          simp -dsimp only [Vm.E, List.lookup, Nat.reduceAdd, Nat.reduceBEq, Int.reduceBNe, Int.reduceBEq, Bool.true_beq, Bool.false_beq, sto_place, sto_box, sto_pp, sto_pc, sto_ptr, sto_cells, stoOk_eq, solid_v, solid_sl, solid_agg, solid_eptr, solid_ptr, solid_mp, solid_clo, cells_eptr, put_nil, put_zero, put_succ, bld_nil, bld_cons, bld_some, bsIx_nil, bsIx_cons, bsAll_nil, bsAll_cons, List.length_cons, List.length_nil, Nat.reduceLeDiff, decide_true, Bool.and_self, Bool.and_true, Bool.true_and, take_sc, take_z, eq_self, sz25, of25, Tryz.results86]
          exact hq1 n (if_pos ⟨d1, d2⟩)
        · have d2 : ¬ n.id = id := by simpa using c2
          simp -dsimp only [Vm.E, List.lookup, Nat.reduceAdd, Nat.reduceBEq, Int.reduceBNe, Int.reduceBEq, Bool.true_beq, Bool.false_beq, sto_place, sto_box, sto_pp, sto_pc, sto_ptr, sto_cells, stoOk_eq, solid_v, solid_sl, solid_agg, solid_eptr, solid_ptr, solid_mp, solid_clo, cells_eptr, put_nil, put_zero, put_succ, bld_nil, bld_cons, bld_some, bsIx_nil, bsIx_cons, bsAll_nil, bsAll_cons, List.length_cons, List.length_nil, Nat.reduceLeDiff, decide_true, Bool.and_self, Bool.and_true, Bool.true_and, take_sc, take_z, eq_self, bd25, sz25, of25, Tryz.results86]
          exact hq2 (if_neg fun hc => d2 hc.2)
      · have d1 : ¬ n.year = year := by simpa using c1
        simp -dsimp only [Vm.E, List.lookup, Nat.reduceAdd, Nat.reduceBEq, Int.reduceBNe, Int.reduceBEq, Bool.true_beq, Bool.false_beq, sto_place, sto_box, sto_pp, sto_pc, sto_ptr, sto_cells, stoOk_eq, solid_v, solid_sl, solid_agg, solid_eptr, solid_ptr, solid_mp, solid_clo, cells_eptr, put_nil, put_zero, put_succ, bld_nil, bld_cons, bld_some, bsIx_nil, bsIx_cons, bsAll_nil, bsAll_cons, List.length_cons, List.length_nil, Nat.reduceLeDiff, decide_true, Bool.and_self, Bool.and_true, Bool.true_and, take_sc, take_z, eq_self, bd25, sz25, of25, Tryz.results86]
        exact hq2 (if_neg fun hc => d1 hc.1)
    · have hq2 := hq2 (by simp only [hn])
      simp -dsimp only [Vm.E, List.lookup, Nat.reduceAdd, Nat.reduceBEq, Int.reduceBNe, Int.reduceBEq, Bool.true_beq, Bool.false_beq, sto_place, sto_box, sto_pp, sto_pc, sto_ptr, sto_cells, stoOk_eq, solid_v, solid_sl, solid_agg, solid_eptr, solid_ptr, solid_mp, solid_clo, cells_eptr, put_nil, put_zero, put_succ, bld_nil, bld_cons, bld_some, bsIx_nil, bsIx_cons, bsAll_nil, bsAll_cons, List.length_cons, List.length_nil, Nat.reduceLeDiff, decide_true, Bool.and_self, Bool.and_true, Bool.true_and, take_sc, take_z, eq_self, ndCells, al25, bd25, sz25, of25, Tryz.results86]
      exact hq2
  · rw [hf] at hq2
    simp -dsimp only [Vm.E, List.lookup, Nat.reduceAdd, Nat.reduceBEq, Int.reduceBNe, Int.reduceBEq, Bool.true_beq, Bool.false_beq, sto_place, sto_box, sto_pp, sto_pc, sto_ptr, sto_cells, stoOk_eq, solid_v, solid_sl, solid_agg, solid_eptr, solid_ptr, solid_mp, solid_clo, cells_eptr, put_nil, put_zero, put_succ, bld_nil, bld_cons, bld_some, bsIx_nil, bsIx_cons, bsAll_nil, bsAll_cons, List.length_cons, List.length_nil, Nat.reduceLeDiff, decide_true, Bool.and_self, Bool.and_true, Bool.true_and, take_sc, take_z, eq_self, al25, bd25, sz25, of25, Tryz.results86]
    exact hq2 rfl

/-- A node, and those above it. -/
def pathOf (f : Fun) (year : Int) : Nat → Int → List Nd
  | 0, _ => []
  | k + 1, id => match nodeAt f year id with
    | none => []
    | some n => n :: if n.parent = 0 then [] else pathOf f year k n.parent
def ndAv (n : Nd) : AV := .agg (ndCells n)
def tpathSpec : Vm.Spec := fun args h Q => ∃ V f year id, args = [.ptr V.iv 0, .v (.int .i64 year), .v (.int .i64 id)] ∧ isView h V f ∧ Q (.own true 25 12 ((pathOf f year 8 id).map ndAv)) h

theorem does_tpath : Does Tryz.prog 54 tpathSpec := by
  refine does_of_awp (good_cons does_tnode good_nil) Tryz.func54 rfl (by decide +kernel) (by decide +kernel) ?_
  rintro args h Q ⟨V, f, year, id, rfl, hV, hq⟩
  refine ⟨by simp [Tryz.f54], ?_⟩
  rw [awpFunc_some (by rfl)]
  simp -dsimp only [Vm.E, List.lookup, Nat.reduceAdd, Nat.reduceBEq, Int.reduceBNe, Int.reduceBEq, Bool.true_beq, Bool.false_beq, sto_place, sto_box, sto_pp, sto_pc, sto_ptr, sto_cells, stoOk_eq, solid_v, solid_sl, solid_agg, solid_eptr, solid_ptr, solid_mp, solid_clo, cells_eptr, put_nil, put_zero, put_succ, bld_nil, bld_cons, bld_some, bsIx_nil, bsIx_cons, bsAll_nil, bsAll_cons, List.length_cons, List.length_nil, Nat.reduceLeDiff, decide_true, Bool.and_self, Bool.and_true, Bool.true_and, take_sc, take_z, eq_self, al117, bd117, sz117]
  refine awp_loop (fun m s h' => ∃ (i : Nat) (id' : Int) (done : List Nd), i + m = 8 ∧ done.length ≤ i ∧ h' = h ∧ done ++ pathOf f year m id' = pathOf f year 8 id ∧
      s = mk [(2, .v (.int .i64 id')), (7, .box [.ptr V.iv 0, .v (.int .i64 year)]), (8, .own true 25 12 (done.map ndAv)), (14, .v (.int .i64 i))])
    8 _ (le_mk _ ?_) ⟨0, id, [], by omega, by simp, rfl, rfl, rfl⟩ ?_
  · simp only [List.forall_mem_cons, List.not_mem_nil, false_imp_iff, implies_true, and_true]
    simp -dsimp only [Vm.E, List.lookup, Nat.reduceAdd, Nat.reduceBEq, Int.reduceBNe, Int.reduceBEq, Bool.true_beq, Bool.false_beq]
    exact ⟨.refl _, .refl _, .nil _ _ _ (by decide), .refl _⟩
  · rintro m s h' ⟨i, id', done, hi, hd, rfl, hp, rfl⟩
    simp -dsimp only [Vm.E, List.lookup, Nat.reduceAdd, Nat.reduceBEq, Int.reduceBNe, Int.reduceBEq, Bool.true_beq, Bool.false_beq]
    refine cond_intro (fun hc => ?_) (fun hc => ?_)
    · have hlt : i < 8 := by have := of_decide_eq_true hc; omega
      have hm : m = (m - 1) + 1 := by omega
      generalize m - 1 = k at hm
      rw [hm] at hp
      simp only [pathOf] at hp
      simp -dsimp only [Vm.E, List.lookup, Nat.reduceAdd, Nat.reduceBEq, Int.reduceBNe, Int.reduceBEq, Bool.true_beq, Bool.false_beq, sto_place, sto_box, sto_pp, sto_pc, sto_ptr, sto_cells, stoOk_eq, solid_v, solid_sl, solid_agg, solid_eptr, solid_ptr, solid_mp, solid_clo, cells_eptr, put_nil, put_zero, put_succ, bld_nil, bld_cons, bld_some, bsIx_nil, bsIx_cons, bsAll_nil, bsAll_cons, List.length_cons, List.length_nil, Nat.reduceLeDiff, decide_true, Bool.and_self, Bool.and_true, Bool.true_and, take_sc, take_z, eq_self, of117]
      refine call_one (S := tnodeSpec) rfl _ GaL.rfl ⟨V, f, year, id', rfl, hV, fun n hn => ?_, fun hn => ?_⟩
      · rw [hn] at hp
        have hp : done ++ (n :: if n.parent = 0 then [] else pathOf f year k n.parent) = pathOf f year 8 id := hp
        simp -dsimp only [Vm.E, List.lookup, Nat.reduceAdd, Nat.reduceBEq, Int.reduceBNe, Int.reduceBEq, Bool.true_beq, Bool.false_beq, sto_place, sto_box, sto_pp, sto_pc, sto_ptr, sto_cells, stoOk_eq, solid_v, solid_sl, solid_agg, solid_eptr, solid_ptr, solid_mp, solid_clo, cells_eptr, put_nil, put_zero, put_succ, bld_nil, bld_cons, bld_some, bsIx_nil, bsIx_cons, bsAll_nil, bsAll_cons, List.length_cons, List.length_nil, Nat.reduceLeDiff, decide_true, Bool.and_self, Bool.and_true, Bool.true_and, take_sc, take_z, eq_self, ndCells, al25, sz25, of25, es23]
        refine bs_intro zr25 (by decide) (by decide) rfl rfl (by simp [solid, AV.cells]) ?_
        simp -dsimp only [Vm.E, List.lookup, Nat.reduceAdd, Nat.reduceBEq, Int.reduceBNe, Int.reduceBEq, Bool.true_beq, Bool.false_beq, append_own ei23]
        refine app_sl Tryz.underlying23 (by simp [AV.cells]) (by simp; omega) ?_
        have ed : done.map ndAv ++ [AV.agg [.v (.int .i64 n.year), .v (.int .i64 n.id), .v (.int .i64 n.parent), .v (.int .i64 n.fund), .v (.int .i64 n.obj), .v (.bool n.abs), .v (.int .i64 n.limit), .v (.int .i64 n.pre), .v (.int .i64 n.enc), .v (.int .i64 n.exp), .v (.int .i64 n.lapsed), .v (.int .i64 n.carried)]] = (done ++ [n]).map ndAv := by
          simp [ndAv, ndCells]
        simp -dsimp only [Vm.E, List.lookup, Nat.reduceAdd, Nat.reduceBEq, Int.reduceBNe, Int.reduceBEq, Bool.true_beq, Bool.false_beq, sto_place, sto_box, sto_pp, sto_pc, sto_ptr, sto_cells, stoOk_eq, solid_v, solid_sl, solid_agg, solid_eptr, solid_ptr, solid_mp, solid_clo, cells_eptr, put_nil, put_zero, put_succ, bld_nil, bld_cons, bld_some, bsIx_nil, bsIx_cons, bsAll_nil, bsAll_cons, List.length_cons, List.length_nil, Nat.reduceLeDiff, decide_true, Bool.and_self, Bool.and_true, Bool.true_and, take_sc, take_z, eq_self, ed, fo25_2, of3]
        cases c1 : (n.parent == 0)
        · have d1 : ¬ n.parent = 0 := by simpa using c1
          rw [if_neg d1] at hp
          simp -dsimp only [Vm.E, List.lookup, Nat.reduceAdd, Nat.reduceBEq, Int.reduceBNe, Int.reduceBEq, Bool.true_beq, Bool.false_beq, sto_place, sto_box, sto_pp, sto_pc, sto_ptr, sto_cells, stoOk_eq, solid_v, solid_sl, solid_agg, solid_eptr, solid_ptr, solid_mp, solid_clo, cells_eptr, put_nil, put_zero, put_succ, bld_nil, bld_cons, bld_some, bsIx_nil, bsIx_cons, bsAll_nil, bsAll_cons, List.length_cons, List.length_nil, Nat.reduceLeDiff, decide_true, Bool.and_self, Bool.and_true, Bool.true_and, take_sc, take_z, eq_self, fo25_2, of3]
          have hw : IntKind.i64.wrap ((i : Int) + 1) = ((i + 1 : Nat) : Int) := by rw [wrap_i64 (by omega) (by omega)]; simp
          refine kept_intro ⟨k, by omega, _, le_mk [(2, .v (.int .i64 n.parent)), (7, .box [.ptr V.iv 0, .v (.int .i64 year)]), (8, .own true 25 12 ((done ++ [n]).map ndAv)), (14, .v (.int .i64 (i + 1 : Nat)))] ?_,
            i + 1, n.parent, done ++ [n], by omega, by simp; omega, rfl, by simpa using hp, rfl⟩
          simp only [List.forall_mem_cons, List.not_mem_nil, false_imp_iff, implies_true, and_true]
          simp -dsimp only [Vm.E, List.lookup, Nat.reduceAdd, Nat.reduceBEq, Int.reduceBNe, Int.reduceBEq, Bool.true_beq, Bool.false_beq, hw]
          exact ⟨.refl _, .refl _, .refl _, .refl _⟩
        · have d1 : n.parent = 0 := by simpa using c1
          rw [if_pos d1] at hp
          simp -dsimp only [Vm.E, List.lookup, Nat.reduceAdd, Nat.reduceBEq, Int.reduceBNe, Int.reduceBEq, Bool.true_beq, Bool.false_beq, Tryz.results54]
          rw [← hp] at hq
          exact hq
      · rw [hn] at hp
        have hp : done ++ [] = pathOf f year 8 id := hp
        simp -dsimp only [Vm.E, List.lookup, Nat.reduceAdd, Nat.reduceBEq, Int.reduceBNe, Int.reduceBEq, Bool.true_beq, Bool.false_beq, sto_place, sto_box, sto_pp, sto_pc, sto_ptr, sto_cells, stoOk_eq, solid_v, solid_sl, solid_agg, solid_eptr, solid_ptr, solid_mp, solid_clo, cells_eptr, put_nil, put_zero, put_succ, bld_nil, bld_cons, bld_some, bsIx_nil, bsIx_cons, bsAll_nil, bsAll_cons, List.length_cons, List.length_nil, Nat.reduceLeDiff, decide_true, Bool.and_self, Bool.and_true, Bool.true_and, take_sc, take_z, eq_self, ndCells, al25, sz25, Tryz.results54]
        rw [← hp] at hq
        simpa using hq
    · have hge : ¬ i < 8 := by have := of_decide_eq_false hc; omega
      have hm : m = 0 := by omega
      rw [hm] at hp
      simp -dsimp only [Vm.E, List.lookup, Nat.reduceAdd, Nat.reduceBEq, Int.reduceBNe, Int.reduceBEq, Bool.true_beq, Bool.false_beq, Tryz.results54]
      rw [← hp] at hq
      simpa [pathOf] using hq

end Go.Proofs.Lx
