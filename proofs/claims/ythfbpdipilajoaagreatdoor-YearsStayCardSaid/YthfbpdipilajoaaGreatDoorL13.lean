/- Control: a charge of a node, and of those above it. -/
import Derived.Test.YthfbpdipilajoaaGreatDoorL12
set_option linter.unusedSimpArgs false
set_option linter.unusedVariables false
namespace Go.Proofs.Lx
open Go.Vm
attribute [local irreducible] awpArr awpBin awpMake awpAppend awpCvX awpStrOf awpBinX awpSlice awpBS awpStore awpAlloc awpCopy awpIndex awpDraw awpIdxX awpFa awpField awpLookup awpUpdate awpDelete awpClear awpRange awpNext awpEntry awpBuild

theorem w64_range (n : Int) : I64 (w64 n) := by
  unfold I64 w64 IntKind.wrap
  simp [IntKind.bits, IntKind.signed]
  omega
theorem wfI {n : Int} (h : I64 n) : I64 n := h

theorem numsPair_i64 {tag : UInt8} {k v : Nat} {key val : List UInt8} {l : List Int} (h : numsPair tag k v key val = some l) : ∀ n ∈ l, I64 n := by
  unfold numsPair at h
  split at h
  · rename_i t ks hs
    split at h
    · cases h
      intro n hn
      rcases List.mem_append.1 hn with hn | hn
      · unfold splitOf at hs
        split at hs
        · cases hs
        · split at hs
          · cases hs
            obtain ⟨i, -, rfl⟩ := List.mem_map.1 hn
            exact num4_range _ _
          · cases hs
      · obtain ⟨i, -, rfl⟩ := List.mem_map.1 hn
        exact num8_range _ _
    · cases h
  · cases h

theorem i64_getD {l : List Int} (h : ∀ n ∈ l, I64 n) (i : Nat) : I64 (l.getD i 0) := by
  rw [List.getD_eq_getElem?_getD]
  cases hi : l[i]? with
  | none => unfold I64; simp
  | some x => exact h x (List.mem_of_getElem? hi)

theorem nodeOf_ok {key val : List UInt8} {n : Nd} (h : nodeOf key val = some n) : n.ok := by
  unfold nodeOf at h
  cases hl : numsPair 78 2 10 key val with
  | none => rw [hl] at h; cases h
  | some l =>
    rw [hl] at h
    cases h
    have := numsPair_i64 hl
    exact ⟨i64_getD this 0, i64_getD this 1, i64_getD this 2, i64_getD this 3, i64_getD this 4, i64_getD this 6, i64_getD this 7, i64_getD this 8, i64_getD this 9, i64_getD this 10, i64_getD this 11⟩

theorem nodeAt_ok {f : Fun} {year id : Int} {n : Nd} (h : nodeAt f year id = some n) : n.ok := by
  unfold nodeAt at h
  split at h
  · cases h
  · split at h
    · rename_i m hm
      split at h
      · cases h; exact nodeOf_ok hm
      · cases h
    · cases h

theorem pathOf_ok (f : Fun) (year : Int) : ∀ (k : Nat) (id : Int), ∀ n ∈ pathOf f year k id, n.ok
  | 0, id, n, hn => by simp [pathOf] at hn
  | k + 1, id, n, hn => by
    simp only [pathOf] at hn
    split at hn
    · cases hn
    · rename_i m hm
      rcases List.mem_cons.1 hn with rfl | hn
      · exact nodeAt_ok hm
      · split at hn
        · cases hn
        · exact pathOf_ok f year k _ n hn
theorem pathOf_length (f : Fun) (year : Int) : ∀ (k : Nat) (id : Int), (pathOf f year k id).length ≤ k
  | 0, id => by simp [pathOf]
  | k + 1, id => by
    simp only [pathOf]
    split
    · simp
    · split
      · simp
      · have := pathOf_length f year k
        simp only [List.length_cons]
        rename_i m hm hp
        have := this m.parent
        omega

theorem Nd.zero_ok : Nd.zero.ok := by simp [Nd.ok, Nd.zero, I64]
theorem addC_ok (c : Chg) (n : Nd) (h : n.ok) : (addC c n).ok := by
  obtain ⟨h1, h2, h3, h4, h5, h6, h7, h8, h9, h10, h11⟩ := h
  exact ⟨h1, h2, h3, h4, h5, h6, w64_range _, w64_range _, w64_range _, h10, h11⟩
theorem atOf_ok (c : Chg) (n : Nd) (h : n.ok) : (atOf c n).1.ok := by
  unfold atOf
  split
  · exact Nd.zero_ok
  · split
    · exact Nd.zero_ok
    · split
      · exact Nd.zero_ok
      · exact addC_ok c n h

def chargeRun (c : Chg) : List Nd → Fun → Bool → Fun × Bool × Int
  | [], f, w => (f, w, 0)
  | n :: r, f, w => if (atOf c n).2.2 ≠ 0 then (f, false, (atOf c n).2.2) else chargeRun c r (upd f (ndK (atOf c n).1) (some (ndV (atOf c n).1))) (w || (atOf c n).2.1)
def chargeOf (f : Fun) (year id : Int) (c : Chg) : Fun × Bool × Int :=
  if (pathOf f year 8 id).length = 0 then (f, false, 7)
  else if chgRight c = false then (f, false, 9)
  else chargeRun c (pathOf f year 8 id) f false

theorem Same.trans {h1 h2 h3 : Heap} {fp : List Nat} (a : Same h1 h2 fp) (b : Same h2 h3 fp) : Same h1 h3 fp :=
  ⟨Nat.le_trans a.1 b.1, fun i hi hn => (b.2 i (Nat.lt_of_lt_of_le hi a.1) hn).trans (a.2 i hi hn)⟩

def chargeSpec : Vm.Spec := fun args h Q => ∃ V f year id c, args = [.ptr V.iv 0, .v (.int .i64 year), .v (.int .i64 id), .v (.int .i64 c.pre), .v (.int .i64 c.enc), .v (.int .i64 c.exp)] ∧ isView h V f ∧
  ∀ h', isView h' V (chargeOf f year id c).1 → Same h h' [V.ic] → Q (.tup [.v (.bool (chargeOf f year id c).2.1), .v (.int .i64 (chargeOf f year id c).2.2)]) h'

set_option maxRecDepth 20000 in
theorem does_charge : Does Tryz.prog 149 chargeSpec := by
  refine does_of_awp (good_cons does_tpath (good_cons does_chgRight (good_cons does_at (good_cons does_tput good_nil)))) Tryz.func149 rfl (by decide +kernel) (by decide +kernel) ?_
  rintro args h Q ⟨V, f, year, id, c, rfl, hV, hq⟩
  refine ⟨by simp [Tryz.f149], ?_⟩
  rw [awpFunc_some (by rfl)]
  unfold chargeOf at hq
  simp -dsimp only [Vm.E, List.lookup, Nat.reduceAdd, Nat.reduceBEq, Int.reduceBNe, Int.reduceBEq, Bool.true_beq, Bool.false_beq]
  refine call_one (S := tpathSpec) rfl _ GaL.rfl ⟨V, f, year, id, rfl, hV, ?_⟩
  have hok := pathOf_ok f year 8 id
  have hlen := pathOf_length f year 8 id
  generalize pathOf f year 8 id = path at hok hlen hq ⊢
  simp -dsimp only [Vm.E, List.lookup, Nat.reduceAdd, Nat.reduceBEq, Int.reduceBNe, Int.reduceBEq, Bool.true_beq, Bool.false_beq, Tryz.underlying23]
  cases c1 : ((path.length : Int) == 0)
  · have d1 : ¬ path.length = 0 := by simp at c1; simpa using c1
    rw [if_neg d1] at hq
    simp -dsimp only [Vm.E, List.lookup, Nat.reduceAdd, Nat.reduceBEq, Int.reduceBNe, Int.reduceBEq, Bool.true_beq, Bool.false_beq, sto_place, sto_box, sto_pp, sto_pc, sto_ptr, sto_cells, stoOk_eq, solid_v, solid_sl, solid_agg, solid_eptr, solid_ptr, solid_mp, solid_clo, cells_eptr, put_nil, put_zero, put_succ, bld_nil, bld_cons, bld_some, bsIx_nil, bsIx_cons, bsAll_nil, bsAll_cons, List.length_cons, List.length_nil, Nat.reduceLeDiff, decide_true, Bool.and_self, Bool.and_true, Bool.true_and, take_sc, take_z, eq_self, al229, bd229, sz229, of229]
    refine call_one (S := chgRightSpec) rfl _ GaL.rfl ⟨c, rfl, ?_⟩
    cases c2 : chgRight c
    · rw [if_pos c2] at hq
      simp -dsimp only [Vm.E, List.lookup, Nat.reduceAdd, Nat.reduceBEq, Int.reduceBNe, Int.reduceBEq, Bool.true_beq, Bool.false_beq, Tryz.results149]
      exact hq h hV (.refl _ _)
    · rw [if_neg (by rw [c2]; decide)] at hq
      simp -dsimp only [Vm.E, List.lookup, Nat.reduceAdd, Nat.reduceBEq, Int.reduceBNe, Int.reduceBEq, Bool.true_beq, Bool.false_beq, Tryz.underlying23]
      refine awp_loop (fun m s h' => ∃ (i : Nat) (f' : Fun) (w : Bool), i + m = path.length ∧ isView h' V f' ∧ Same h h' [V.ic] ∧ chargeRun c (path.drop i) f' w = chargeRun c path f false ∧
          s = mk [(0, .ptr V.iv 0), (14, .own true 25 12 (path.map ndAv)), (15, .box (chgCells c)), (16, .v (.bool w)), (37, .alias 14), (38, .v (.int .i64 path.length)), (39, .v (.int .i64 i))])
        path.length _ (le_mk _ ?_) ⟨0, f, false, by omega, hV, .refl _ _, rfl, rfl⟩ ?_
      · simp only [List.forall_mem_cons, List.not_mem_nil, false_imp_iff, implies_true, and_true]
        simp -dsimp only [Vm.E, List.lookup, Nat.reduceAdd, Nat.reduceBEq, Int.reduceBNe, Int.reduceBEq, Bool.true_beq, Bool.false_beq]
        exact ⟨.refl _, .refl _, .refl _, .refl _, .refl _, .refl _, .refl _⟩
      · rintro m s h' ⟨i, f', w, hi, hV', hS, hr, rfl⟩
        simp -dsimp only [Vm.E, List.lookup, Nat.reduceAdd, Nat.reduceBEq, Int.reduceBNe, Int.reduceBEq, Bool.true_beq, Bool.false_beq]
        refine cond_intro (fun hc => ?_) (fun hc => ?_)
        · have hlt : i < path.length := by have := of_decide_eq_true hc; omega
          have hn := hok path[i] (List.getElem_mem hlt)
          have hgi : (path.map ndAv)[i]? = some (ndAv path[i]) := by rw [List.getElem?_map, List.getElem?_eq_getElem hlt]; rfl
          rw [List.drop_eq_getElem_cons hlt] at hr
          generalize path[i] = n at hn hgi hr
          simp only [chargeRun] at hr
          simp -dsimp only [Vm.E, List.lookup, Nat.reduceAdd, Nat.reduceBEq, Int.reduceBNe, Int.reduceBEq, Bool.true_beq, Bool.false_beq, es23, as23]
          refine idxO_intro (xs := path.map ndAv) (by omega) (by simp; omega) ?_
          simp -dsimp only [Vm.E, List.lookup, Nat.reduceAdd, Nat.reduceBEq, Int.reduceBNe, Int.reduceBEq, Bool.true_beq, Bool.false_beq, Int.toNat_natCast]
          refine eltA_intro (xs := path.map ndAv) hgi ?_
          simp -dsimp only [Vm.E, List.lookup, Nat.reduceAdd, Nat.reduceBEq, Int.reduceBNe, Int.reduceBEq, Bool.true_beq, Bool.false_beq, sto_place, sto_box, sto_pp, sto_pc, sto_ptr, sto_cells, stoOk_eq, solid_v, solid_sl, solid_agg, solid_eptr, solid_ptr, solid_mp, solid_clo, cells_eptr, put_nil, put_zero, put_succ, bld_nil, bld_cons, bld_some, bsIx_nil, bsIx_cons, bsAll_nil, bsAll_cons, List.length_cons, List.length_nil, Nat.reduceLeDiff, decide_true, Bool.and_self, Bool.and_true, Bool.true_and, take_sc, take_z, eq_self, ndAv, ndCells, chgCells, of25, al25, sz25, of229]
          refine call_one (S := atSpec) rfl _ GaL.rfl ⟨c, n, rfl, ?_⟩
          have hx := atOf_ok c n hn
          generalize hat : atOf c n = r at hx hr ⊢
          obtain ⟨x, warn, e⟩ := r
          simp -dsimp only [Vm.E, List.lookup, Nat.reduceAdd, Nat.reduceBEq, Int.reduceBNe, Int.reduceBEq, Bool.true_beq, Bool.false_beq, sto_place, sto_box, sto_pp, sto_pc, sto_ptr, sto_cells, stoOk_eq, solid_v, solid_sl, solid_agg, solid_eptr, solid_ptr, solid_mp, solid_clo, cells_eptr, put_nil, put_zero, put_succ, bld_nil, bld_cons, bld_some, bsIx_nil, bsIx_cons, bsAll_nil, bsAll_cons, List.length_cons, List.length_nil, Nat.reduceLeDiff, decide_true, Bool.and_self, Bool.and_true, Bool.true_and, take_sc, take_z, eq_self, ndCells, al25, sz25]
          cases c3 : (e != 0)
          · have d3 : e = 0 := by simpa using c3
            subst d3
            simp only [ne_eq, not_true_eq_false, if_false] at hr
            simp -dsimp only [Vm.E, List.lookup, Nat.reduceAdd, Nat.reduceBEq, Int.reduceBNe, Int.reduceBEq, Bool.true_beq, Bool.false_beq]
            cases w
            · simp -dsimp only [Vm.E, List.lookup, Nat.reduceAdd, Nat.reduceBEq, Int.reduceBNe, Int.reduceBEq, Bool.true_beq, Bool.false_beq, sto_place, sto_box, sto_pp, sto_pc, sto_ptr, sto_cells, stoOk_eq, solid_v, solid_sl, solid_agg, solid_eptr, solid_ptr, solid_mp, solid_clo, cells_eptr, put_nil, put_zero, put_succ, bld_nil, bld_cons, bld_some, bsIx_nil, bsIx_cons, bsAll_nil, bsAll_cons, List.length_cons, List.length_nil, Nat.reduceLeDiff, decide_true, Bool.and_self, Bool.and_true, Bool.true_and, take_sc, take_z, eq_self, of25]
              refine call_one (S := tputSpec) rfl _ GaL.rfl ⟨V, f', x, rfl, hx, hV', fun h2 g1 g2 => ?_⟩
              have hw : IntKind.i64.wrap ((i : Int) + 1) = ((i + 1 : Nat) : Int) := by rw [wrap_i64 (by omega) (by omega)]; simp
              simp -dsimp only [Vm.E, List.lookup, Nat.reduceAdd, Nat.reduceBEq, Int.reduceBNe, Int.reduceBEq, Bool.true_beq, Bool.false_beq, bne_self_eq_false]
              refine kept_intro ⟨path.length - (i + 1), by omega, _, le_mk [(0, .ptr V.iv 0), (14, .own true 25 12 (path.map ndAv)), (15, .box (chgCells c)), (16, .v (.bool warn)), (37, .alias 14), (38, .v (.int .i64 path.length)), (39, .v (.int .i64 (i + 1 : Nat)))] ?_,
                i + 1, _, warn, by omega, g1, hS.trans g2, by simpa using hr, rfl⟩
              simp only [List.forall_mem_cons, List.not_mem_nil, false_imp_iff, implies_true, and_true]
              simp -dsimp only [Vm.E, List.lookup, Nat.reduceAdd, Nat.reduceBEq, Int.reduceBNe, Int.reduceBEq, Bool.true_beq, Bool.false_beq, hw]
              exact ⟨.refl _, .refl _, .refl _, .refl _, .refl _, .refl _, .refl _⟩
            · simp -dsimp only [Vm.E, List.lookup, Nat.reduceAdd, Nat.reduceBEq, Int.reduceBNe, Int.reduceBEq, Bool.true_beq, Bool.false_beq, sto_place, sto_box, sto_pp, sto_pc, sto_ptr, sto_cells, stoOk_eq, solid_v, solid_sl, solid_agg, solid_eptr, solid_ptr, solid_mp, solid_clo, cells_eptr, put_nil, put_zero, put_succ, bld_nil, bld_cons, bld_some, bsIx_nil, bsIx_cons, bsAll_nil, bsAll_cons, List.length_cons, List.length_nil, Nat.reduceLeDiff, decide_true, Bool.and_self, Bool.and_true, Bool.true_and, take_sc, take_z, eq_self, of25]
              refine call_one (S := tputSpec) rfl _ GaL.rfl ⟨V, f', x, rfl, hx, hV', fun h2 g1 g2 => ?_⟩
              have hw : IntKind.i64.wrap ((i : Int) + 1) = ((i + 1 : Nat) : Int) := by rw [wrap_i64 (by omega) (by omega)]; simp
              simp -dsimp only [Vm.E, List.lookup, Nat.reduceAdd, Nat.reduceBEq, Int.reduceBNe, Int.reduceBEq, Bool.true_beq, Bool.false_beq, bne_self_eq_false]
              refine kept_intro ⟨path.length - (i + 1), by omega, _, le_mk [(0, .ptr V.iv 0), (14, .own true 25 12 (path.map ndAv)), (15, .box (chgCells c)), (16, .v (.bool true)), (37, .alias 14), (38, .v (.int .i64 path.length)), (39, .v (.int .i64 (i + 1 : Nat)))] ?_,
                i + 1, _, true, by omega, g1, hS.trans g2, by simpa using hr, rfl⟩
              simp only [List.forall_mem_cons, List.not_mem_nil, false_imp_iff, implies_true, and_true]
              simp -dsimp only [Vm.E, List.lookup, Nat.reduceAdd, Nat.reduceBEq, Int.reduceBNe, Int.reduceBEq, Bool.true_beq, Bool.false_beq, hw]
              exact ⟨.refl _, .refl _, .refl _, .refl _, .refl _, .refl _, .refl _⟩
          · have d3 : e ≠ 0 := by simpa using c3
            have hr : (f', false, e) = chargeRun c path f false := by simpa [d3] using hr
            rw [← hr] at hq
            simp -dsimp only [Vm.E, List.lookup, Nat.reduceAdd, Nat.reduceBEq, Int.reduceBNe, Int.reduceBEq, Bool.true_beq, Bool.false_beq, Tryz.results149]
            exact hq h' hV' hS
        · have hge : ¬ i < path.length := by have := of_decide_eq_false hc; omega
          rw [List.drop_of_length_le (by omega)] at hr
          have hr : (f', w, 0) = chargeRun c path f false := hr
          rw [← hr] at hq
          simp -dsimp only [Vm.E, List.lookup, Nat.reduceAdd, Nat.reduceBEq, Int.reduceBNe, Int.reduceBEq, Bool.true_beq, Bool.false_beq, Tryz.results149]
          exact hq h' hV' hS
  · have d1 : path.length = 0 := by simp at c1; simpa using c1
    rw [if_pos d1] at hq
    simp -dsimp only [Vm.E, List.lookup, Nat.reduceAdd, Nat.reduceBEq, Int.reduceBNe, Int.reduceBEq, Bool.true_beq, Bool.false_beq, Tryz.results149]
    exact hq h hV (.refl _ _)

end Go.Proofs.Lx
