/- What the functions of the program do: their contracts. -/
import Derived.Test.YtmhnhmihagkidaaGreatDoorV2
import Derived.Test.YtmhnhmihagkidaaGreatDoorTFs
import Derived.Test.YtmhnhmihagkidaaGreatDoorW0
/- What was used: actual. -/
set_option linter.unusedSimpArgs false
set_option linter.unusedVariables false
namespace Go.Proofs.Lx
open Go.Vm
attribute [local irreducible] awpArr awpBin awpMake awpAppend awpCvX awpStrOf awpBinX awpSlice awpBS awpStore awpAlloc awpCopy awpIndex awpDraw awpIdxX awpFa awpField awpLookup awpUpdate awpDelete awpClear awpRange awpNext awpEntry awpBuild awpClearS awpIdxL awpTree appB awpIdxO eltA treeA
def capM (a : Int) : Int := if 281474976710656 < a then 281474976710656 else a
def shareOf (a b : Int) : Int := if a < 1 then 0 else if b < 1 then 10000 else w64 ((w64 (capM a * 10000)).tdiv (capM b))
theorem capM_pos {b : Int} (h : ¬ b < 1) : capM b ≠ 0 := by unfold capM; split <;> omega
def shareSpec : Vm.Spec := fun args h Q => ∃ a b : Int, args = [.v (.int .i64 a), .v (.int .i64 b)] ∧ Q (.v (.int .i64 (shareOf a b))) h
set_option maxHeartbeats 1000000 in
theorem does_share : Does Tryz.prog 23 shareSpec := by
  refine does_of_awp good_nil Tryz.func23 rfl (by decide +kernel) (by decide +kernel) ?_
  rintro args h Q ⟨a, b, rfl, hq⟩
  refine ⟨by simp [Tryz.f23], ?_⟩
  rw [awpFunc_some (by rfl)]
  unfold shareOf at hq
  simp -dsimp only [Vm.E, List.lookup, Nat.reduceAdd, Nat.reduceBEq, Int.reduceBNe, Int.reduceBEq, Bool.true_beq, Bool.false_beq, Vm.S, Nat.reduceLeDiff, q23]
  cases c1 : decide (a < 1)
  · have d1 := of_decide_eq_false c1
    rw [if_neg d1] at hq
    simp -dsimp only [Vm.E, List.lookup, Nat.reduceAdd, Nat.reduceBEq, Int.reduceBNe, Int.reduceBEq, Bool.true_beq, Bool.false_beq, Vm.S, Nat.reduceLeDiff, q23, c1]
    cases c2 : decide (b < 1)
    · have d2 := of_decide_eq_false c2
      rw [if_neg d2] at hq
      simp -dsimp only [Vm.E, List.lookup, Nat.reduceAdd, Nat.reduceBEq, Int.reduceBNe, Int.reduceBEq, Bool.true_beq, Bool.false_beq, Vm.S, Nat.reduceLeDiff, q23, c2]
      refine quo_intro (capM_pos d2) ?_
      simp -dsimp only [Vm.E, List.lookup, Nat.reduceAdd, Nat.reduceBEq, Int.reduceBNe, Int.reduceBEq, Bool.true_beq, Bool.false_beq, Vm.S, Nat.reduceLeDiff, q23]
      exact hq
    · have d2 := of_decide_eq_true c2
      rw [if_pos d2] at hq
      simp -dsimp only [Vm.E, List.lookup, Nat.reduceAdd, Nat.reduceBEq, Int.reduceBNe, Int.reduceBEq, Bool.true_beq, Bool.false_beq, Vm.S, Nat.reduceLeDiff, q23, c2]
      exact hq
  · have d1 := of_decide_eq_true c1
    rw [if_pos d1] at hq
    simp -dsimp only [Vm.E, List.lookup, Nat.reduceAdd, Nat.reduceBEq, Int.reduceBNe, Int.reduceBEq, Bool.true_beq, Bool.false_beq, Vm.S, Nat.reduceLeDiff, q23, c1]
    exact hq
structure Al where
  node : Int
  level : Int
  limit : Int
  used : Int
  left : Int
  share : Int
def alCells (x : Al) : List AV := [.v (.int .i64 x.node), .v (.int .i64 x.level), .v (.int .i64 x.limit), .v (.int .i64 x.used), .v (.int .i64 x.left), .v (.int .i64 x.share)]
def alAv (x : Al) : AV := .agg (alCells x)
def alOf (f : Fun) (year : Int) (n : Nd) : Al := ⟨n.id, w64 ((pathOf f year 8 n.id).length - 1), n.limit, usedOf n, w64 (n.limit - usedOf n), shareOf (usedOf n) n.limit⟩
def alineSpec : Vm.Spec := fun args h Q => ∃ (V : VId) (f : Fun) (year : Int) (n : Nd), args = [.agg [.ptr V.iv 0, .v (.int .i64 year)], .agg (ndCells n)] ∧ isView h V f ∧ Q (.agg (alCells (alOf f year n))) h
set_option maxRecDepth 20000 in
set_option maxHeartbeats 2000000 in
theorem does_aline : Does Tryz.prog 73 alineSpec := by
  refine does_of_awp (good_cons does_used (good_cons does_tpath (good_cons does_share good_nil))) Tryz.func73 rfl (by decide +kernel) (by decide +kernel) ?_
  rintro args h Q ⟨V, f, year, n, rfl, hV, hq⟩
  refine ⟨by simp [Tryz.f73], ?_⟩
  rw [awpFunc_some (by rfl)]
  simp only [ndCells]
  simp -dsimp only [Vm.E, List.lookup, Nat.reduceAdd, Nat.reduceBEq, Int.reduceBNe, Int.reduceBEq, Bool.true_beq, Bool.false_beq, Vm.S, Nat.reduceLeDiff, q73]
  refine call_one (S := usedSpec) rfl _ GaL.rfl ⟨n, rfl, ?_⟩
  simp -dsimp only [Vm.E, List.lookup, Nat.reduceAdd, Nat.reduceBEq, Int.reduceBNe, Int.reduceBEq, Bool.true_beq, Bool.false_beq, Vm.S, Nat.reduceLeDiff, q73]
  refine call_one (S := tpathSpec) rfl _ GaL.rfl ⟨V, f, year, n.id, rfl, hV, ?_⟩
  unfold alOf at hq
  generalize pathOf f year 8 n.id = p at hq ⊢
  generalize usedOf n = u at hq ⊢
  simp only [alCells] at hq
  simp -dsimp only [Vm.E, List.lookup, Nat.reduceAdd, Nat.reduceBEq, Int.reduceBNe, Int.reduceBEq, Bool.true_beq, Bool.false_beq, Vm.S, Nat.reduceLeDiff, q73]
  refine draw_cont [3] (.take 0 (.take 1 (.take 2 (.take 3 (.take 4 (.take 5 (.take 6 (.take 7 (.take 8 (.take 9 (.take 10 (.take 11 (.take 12 (.take 13 (.take 14 (.alt 15 (.alt 16 (.alt 17 (.done) .stop) .stop) .stop)))))))))))))))) (fun s h2 => h2 = h ∧ s 4 = .box [.v (.int .i64 n.id), .v (.int .i64 (w64 (p.length - 1))), .v (.int .i64 n.limit), .v (.int .i64 u), .v (.int .i64 (w64 (n.limit - u))), .v (.int .i64 (shareOf u n.limit))]) (by kernel_rfl) (by kernel_rfl) (by kernel_rfl) (by decide) ?_ ?_
  · repeat' first
      | with_reducible exact True.intro
      | simp -dsimp only [Vm.E, List.lookup, Nat.reduceAdd, Nat.reduceBEq, Int.reduceBNe, Int.reduceBEq, Bool.true_beq, Bool.false_beq, Vm.S, Nat.reduceLeDiff, q73, List.length_map]
      | refine call_one (S := shareSpec) rfl _ GaL.rfl ⟨u, n.limit, rfl, ?_⟩
      | refine tree_alt ?_ ?_
      | repeat' first | rfl | exact True.intro | refine And.intro ?_ ?_
  · rintro s h2 ⟨rfl, e4⟩
    simp -dsimp only [Vm.E, List.lookup, Nat.reduceAdd, Nat.reduceBEq, Int.reduceBNe, Int.reduceBEq, Bool.true_beq, Bool.false_beq, Vm.S, Nat.reduceLeDiff, q73, e4]
    exact hq
def alinesSpec : Vm.Spec := fun args h Q => ∃ (V : VId) (f : Fun) (year : Int), args = [.ptr V.iv 0, .v (.int .i64 year)] ∧ isView h V f ∧ f.n ≤ 536870912 ∧
  ∀ l h', ScanIs f (keyOf 78 [year]) l → l.length ≤ 2 * f.n → isView h' V f → Same h h' [] → Q (.own true 35 6 (((allN year l).map (alOf f year)).map alAv)) h'
theorem allN_length (year : Int) (l : List KV) : (allN year l).length ≤ l.length := List.length_filterMap_le ..
set_option maxRecDepth 20000 in
set_option maxHeartbeats 2000000 in
theorem does_alines : Does Tryz.prog 15 alinesSpec := by
  refine does_of_awp (good_cons does_tall (good_cons does_aline good_nil)) Tryz.func15 rfl (by decide +kernel) (by decide +kernel) ?_
  rintro args h Q ⟨V, f, year, rfl, hV, hn, hq⟩
  refine ⟨by simp [Tryz.f15], ?_⟩
  rw [awpFunc_some (by rfl)]
  simp -dsimp only [Vm.E, List.lookup, Nat.reduceAdd, Nat.reduceBEq, Int.reduceBNe, Int.reduceBEq, Bool.true_beq, Bool.false_beq, Vm.S, Nat.reduceLeDiff, q15]
  refine call_one (S := tallSpec) rfl _ GaL.rfl ⟨V, f, year, rfl, hV, hn, fun l h1 hsc hln hV1 hs1 => ?_⟩
  have hq := hq l h1 hsc hln hV1 hs1
  have hnl := allN_length year l
  generalize allN year l = ns at hq hnl ⊢
  simp -dsimp only [Vm.E, List.lookup, Nat.reduceAdd, Nat.reduceBEq, Int.reduceBNe, Int.reduceBEq, Bool.true_beq, Bool.false_beq, Vm.S, Nat.reduceLeDiff, q15]
  refine awp_loop (fun m s h' => ∃ i : Nat, i + m = ns.length ∧ h' = h1 ∧ s = mk [(5, .box [.ptr V.iv 0, .v (.int .i64 year)]), (6, .own true 35 6 (((ns.take (i)).map (alOf f year)).map alAv)), (14, .own true 27 12 (ns.map ndAv)), (15, .v (.int .i64 ns.length)), (16, .v (.int .i64 (i : Nat)))])
    ns.length _ (le_mk _ ?_) ⟨0, by omega, rfl, rfl⟩ ?_
  · simp only [List.forall_mem_cons, List.not_mem_nil, false_imp_iff, implies_true, and_true]
    try simp -dsimp only [Vm.E, List.lookup, Nat.reduceAdd, Nat.reduceBEq, Int.reduceBNe, Int.reduceBEq, Bool.true_beq, Bool.false_beq, Vm.S, Nat.reduceLeDiff, q15]
    repeat' first | exact Fg.refl _ | exact Fg.nil _ _ _ (by decide) | refine And.intro ?_ ?_
  · rintro m s h' ⟨i, hi, rfl, rfl⟩
    simp -dsimp only [Vm.E, List.lookup, Nat.reduceAdd, Nat.reduceBEq, Int.reduceBNe, Int.reduceBEq, Bool.true_beq, Bool.false_beq, Vm.S, Nat.reduceLeDiff, q15]
    refine cond_intro (fun hcc => ?_) (fun hcc => ?_)
    · have hlt : i < ns.length := by have := of_decide_eq_true hcc; omega
      have hw : IntKind.i64.wrap ((i : Int) + 1) = ((i + 1 : Nat) : Int) := by rw [wrap_i64 (by omega) (by omega)]; simp
      have hget : (ns.map ndAv)[i]? = some (ndAv ns[i]) := by simp [hlt]
      have htk : ns.take (i + 1) = ns.take i ++ [ns[i]] := List.take_succ_eq_append_getElem hlt
      generalize ns[i] = n at hget htk
      simp -dsimp only [Vm.E, List.lookup, Nat.reduceAdd, Nat.reduceBEq, Int.reduceBNe, Int.reduceBEq, Bool.true_beq, Bool.false_beq, Vm.S, Nat.reduceLeDiff, q15]
      refine idxO_intro (by omega) (by simp; omega) ?_
      simp -dsimp only [Vm.E, List.lookup, Nat.reduceAdd, Nat.reduceBEq, Int.reduceBNe, Int.reduceBEq, Bool.true_beq, Bool.false_beq, Vm.S, Nat.reduceLeDiff, q15, Int.toNat_natCast]
      refine eltA_intro hget ?_
      simp only [ndAv, ndCells]
      simp -dsimp only [Vm.E, List.lookup, Nat.reduceAdd, Nat.reduceBEq, Int.reduceBNe, Int.reduceBEq, Bool.true_beq, Bool.false_beq, Vm.S, Nat.reduceLeDiff, q15, AV.cells, List.drop_zero]
      refine call_one (S := alineSpec) rfl _ GaL.rfl ⟨V, f, year, n, rfl, hV1, ?_⟩
      have hcell : (alCells (alOf f year n)).length = 6 := rfl
      generalize hx : alOf f year n = x at hcell ⊢
      simp only [alCells]
      simp -dsimp only [Vm.E, List.lookup, Nat.reduceAdd, Nat.reduceBEq, Int.reduceBNe, Int.reduceBEq, Bool.true_beq, Bool.false_beq, Vm.S, Nat.reduceLeDiff, q15]
      refine bs_intro zr35 (by decide) (by decide) rfl rfl (by simp [solid, AV.cells]) ?_
      simp -dsimp only [Vm.E, List.lookup, Nat.reduceAdd, Nat.reduceBEq, Int.reduceBNe, Int.reduceBEq, Bool.true_beq, Bool.false_beq, Vm.S, Nat.reduceLeDiff, q15]
      refine app_sl Tryz.underlying32 (by simp [AV.cells]) (by simp only [List.length_map, List.length_cons, List.length_nil, List.length_take]; omega) ?_
      simp -dsimp only [Vm.E, List.lookup, Nat.reduceAdd, Nat.reduceBEq, Int.reduceBNe, Int.reduceBEq, Bool.true_beq, Bool.false_beq, Vm.S, Nat.reduceLeDiff, q15]
      refine kept_intro ⟨ns.length - (i + 1), by omega, _, le_mk [(5, .box [.ptr V.iv 0, .v (.int .i64 year)]), (6, .own true 35 6 (((ns.take (i + 1)).map (alOf f year)).map alAv)), (14, .own true 27 12 (ns.map ndAv)), (15, .v (.int .i64 ns.length)), (16, .v (.int .i64 (i + 1 : Nat)))] ?_, i + 1, by omega, rfl, rfl⟩
      simp only [List.forall_mem_cons, List.not_mem_nil, false_imp_iff, implies_true, and_true, hw, htk, List.map_append, List.map_cons, List.map_nil, hx, alAv, alCells]
      try simp -dsimp only [Vm.E, List.lookup, Nat.reduceAdd, Nat.reduceBEq, Int.reduceBNe, Int.reduceBEq, Bool.true_beq, Bool.false_beq, Vm.S, Nat.reduceLeDiff, q15, hw, htk, List.map_append, List.map_cons, List.map_nil, hx, alAv, alCells]
      repeat' first | exact Fg.refl _ | exact Fg.nil _ _ _ (by decide) | refine And.intro ?_ ?_
    · have hge : ¬ i < ns.length := by have := of_decide_eq_false hcc; omega
      simp -dsimp only [Vm.E, List.lookup, Nat.reduceAdd, Nat.reduceBEq, Int.reduceBNe, Int.reduceBEq, Bool.true_beq, Bool.false_beq, Vm.S, Nat.reduceLeDiff, q15]
      rw [List.take_of_length_le (by omega)]
      exact hq
/-- The numbers of nodes that used more than they may. -/
def beyOf (n : Nd) : Option Int := if usedOf n > n.limit then some n.id else none
def beyondSpec : Vm.Spec := fun args h Q => ∃ (V : VId) (f : Fun) (year : Int), args = [.ptr V.iv 0, .v (.int .i64 year)] ∧ isView h V f ∧ f.n ≤ 536870912 ∧
  ∀ l h', ScanIs f (keyOf 78 [year]) l → l.length ≤ 2 * f.n → isView h' V f → Same h h' [] → Q (.own true 3 1 (((allN year l).filterMap beyOf).map encI)) h'
set_option maxRecDepth 20000 in
set_option maxHeartbeats 2000000 in
theorem does_beyond : Does Tryz.prog 14 beyondSpec := by
  refine does_of_awp (good_cons does_tall (good_cons does_used good_nil)) Tryz.func14 rfl (by decide +kernel) (by decide +kernel) ?_
  rintro args h Q ⟨V, f, year, rfl, hV, hn, hq⟩
  refine ⟨by simp [Tryz.f14], ?_⟩
  rw [awpFunc_some (by rfl)]
  simp -dsimp only [Vm.E, List.lookup, Nat.reduceAdd, Nat.reduceBEq, Int.reduceBNe, Int.reduceBEq, Bool.true_beq, Bool.false_beq, Vm.S, Nat.reduceLeDiff, q14]
  refine call_one (S := tallSpec) rfl _ GaL.rfl ⟨V, f, year, rfl, hV, hn, fun l h1 hsc hln hV1 hs1 => ?_⟩
  have hq := hq l h1 hsc hln hV1 hs1
  have hnl := allN_length year l
  generalize allN year l = ns at hq hnl ⊢
  simp -dsimp only [Vm.E, List.lookup, Nat.reduceAdd, Nat.reduceBEq, Int.reduceBNe, Int.reduceBEq, Bool.true_beq, Bool.false_beq, Vm.S, Nat.reduceLeDiff, q14]
  refine awp_loop (fun m s h' => ∃ i : Nat, i + m = ns.length ∧ h' = h1 ∧ s = mk [(5, .own true 3 1 (((ns.take (i)).filterMap beyOf).map encI)), (10, .own true 27 12 (ns.map ndAv)), (11, .v (.int .i64 ns.length)), (12, .v (.int .i64 (i : Nat)))])
    ns.length _ (le_mk _ ?_) ⟨0, by omega, rfl, rfl⟩ ?_
  · simp only [List.forall_mem_cons, List.not_mem_nil, false_imp_iff, implies_true, and_true]
    try simp -dsimp only [Vm.E, List.lookup, Nat.reduceAdd, Nat.reduceBEq, Int.reduceBNe, Int.reduceBEq, Bool.true_beq, Bool.false_beq, Vm.S, Nat.reduceLeDiff, q14]
    repeat' first | exact Fg.refl _ | exact Fg.nil _ _ _ (by decide) | refine And.intro ?_ ?_
  · rintro m s h' ⟨i, hi, rfl, rfl⟩
    simp -dsimp only [Vm.E, List.lookup, Nat.reduceAdd, Nat.reduceBEq, Int.reduceBNe, Int.reduceBEq, Bool.true_beq, Bool.false_beq, Vm.S, Nat.reduceLeDiff, q14]
    refine cond_intro (fun hcc => ?_) (fun hcc => ?_)
    · have hlt : i < ns.length := by have := of_decide_eq_true hcc; omega
      have hw : IntKind.i64.wrap ((i : Int) + 1) = ((i + 1 : Nat) : Int) := by rw [wrap_i64 (by omega) (by omega)]; simp
      have hget : (ns.map ndAv)[i]? = some (ndAv ns[i]) := by simp [hlt]
      have est := filterMap_step beyOf ns i hlt
      have hal : ((ns.take i).filterMap beyOf).length ≤ i := filterMap_le beyOf ns i
      generalize ns[i] = n at hget est
      have eb : beyOf n = if usedOf n > n.limit then some n.id else none := rfl
      rw [eb] at est
      simp -dsimp only [Vm.E, List.lookup, Nat.reduceAdd, Nat.reduceBEq, Int.reduceBNe, Int.reduceBEq, Bool.true_beq, Bool.false_beq, Vm.S, Nat.reduceLeDiff, q14]
      refine idxO_intro (by omega) (by simp; omega) ?_
      simp -dsimp only [Vm.E, List.lookup, Nat.reduceAdd, Nat.reduceBEq, Int.reduceBNe, Int.reduceBEq, Bool.true_beq, Bool.false_beq, Vm.S, Nat.reduceLeDiff, q14, Int.toNat_natCast]
      refine eltA_intro hget ?_
      simp only [ndAv, ndCells]
      simp -dsimp only [Vm.E, List.lookup, Nat.reduceAdd, Nat.reduceBEq, Int.reduceBNe, Int.reduceBEq, Bool.true_beq, Bool.false_beq, Vm.S, Nat.reduceLeDiff, q14, AV.cells, List.drop_zero]
      refine draw_cont [7] (.take 0 (.take 2 (.take 3 (.alt 1 (.take 4 (.done)) .stop)))) (fun s h2 => h2 = h' ∧ s 20 = .v (.bool (decide (usedOf n > n.limit))) ∧ s 5 = .own true 3 1 (((ns.take i).filterMap beyOf).map encI) ∧ s 7 = .eptr (ndCells n) ∧ s 10 = .own true 27 12 (ns.map ndAv) ∧ s 11 = .v (.int .i64 ns.length) ∧ s 12 = .v (.int .i64 i)) (by kernel_rfl) (by kernel_rfl) (by kernel_rfl) (by decide) ?_ ?_
      · repeat' first
          | with_reducible exact True.intro
          | simp -dsimp only [Vm.E, List.lookup, Nat.reduceAdd, Nat.reduceBEq, Int.reduceBNe, Int.reduceBEq, Bool.true_beq, Bool.false_beq, Vm.S, Nat.reduceLeDiff, q14, ndCells]
          | refine call_one (S := usedSpec) rfl _ GaL.rfl ⟨n, rfl, ?_⟩
          | refine tree_alt ?_ ?_
          | repeat' first | rfl | exact True.intro | refine And.intro ?_ ?_
      · rintro s h2 ⟨rfl, e20, e5, e7, e10, e11, e12⟩
        simp only [ndCells] at e7
        have hd := Bool.eq_false_or_eq_true (decide (usedOf n > n.limit))
        rcases hd with c | c
        · have d := of_decide_eq_true c
          rw [if_pos d] at est
          rw [c] at e20
          simp -dsimp only [Vm.E, List.lookup, Nat.reduceAdd, Nat.reduceBEq, Int.reduceBNe, Int.reduceBEq, Bool.true_beq, Bool.false_beq, Vm.S, Nat.reduceLeDiff, q14, e20, e5, e7, e10, e11, e12]
          refine bs_intro zr3 (by decide) (by decide) rfl rfl (by simp [solid, AV.cells]) ?_
          simp -dsimp only [Vm.E, List.lookup, Nat.reduceAdd, Nat.reduceBEq, Int.reduceBNe, Int.reduceBEq, Bool.true_beq, Bool.false_beq, Vm.S, Nat.reduceLeDiff, q14, e20, e5, e7, e10, e11, e12]
          refine app_sl Tryz.underlying30 (by simp [AV.cells]) (by simp only [List.length_map, List.length_cons, List.length_nil]; omega) ?_
          simp -dsimp only [Vm.E, List.lookup, Nat.reduceAdd, Nat.reduceBEq, Int.reduceBNe, Int.reduceBEq, Bool.true_beq, Bool.false_beq, Vm.S, Nat.reduceLeDiff, q14, e20, e5, e7, e10, e11, e12]
          refine kept_intro ⟨ns.length - (i + 1), by omega, _, le_mk [(5, .own true 3 1 (((ns.take (i + 1)).filterMap beyOf).map encI)), (10, .own true 27 12 (ns.map ndAv)), (11, .v (.int .i64 ns.length)), (12, .v (.int .i64 (i + 1 : Nat)))] ?_, i + 1, by omega, rfl, rfl⟩
          simp only [List.forall_mem_cons, List.not_mem_nil, false_imp_iff, implies_true, and_true, hw, est, e5, e7, e10, e11, e12, Option.toList, List.map_append, List.map_cons, List.map_nil, encI]
          try simp -dsimp only [Vm.E, List.lookup, Nat.reduceAdd, Nat.reduceBEq, Int.reduceBNe, Int.reduceBEq, Bool.true_beq, Bool.false_beq, Vm.S, Nat.reduceLeDiff, q14, hw, est, e5, e7, e10, e11, e12, Option.toList, List.map_append, List.map_cons, List.map_nil, encI]
          repeat' first | exact Fg.refl _ | exact Fg.nil _ _ _ (by decide) | refine And.intro ?_ ?_
        · have d := of_decide_eq_false c
          rw [if_neg d] at est
          rw [c] at e20
          simp -dsimp only [Vm.E, List.lookup, Nat.reduceAdd, Nat.reduceBEq, Int.reduceBNe, Int.reduceBEq, Bool.true_beq, Bool.false_beq, Vm.S, Nat.reduceLeDiff, q14, e20, e5, e7, e10, e11, e12]
          refine kept_intro ⟨ns.length - (i + 1), by omega, _, le_mk [(5, .own true 3 1 (((ns.take (i + 1)).filterMap beyOf).map encI)), (10, .own true 27 12 (ns.map ndAv)), (11, .v (.int .i64 ns.length)), (12, .v (.int .i64 (i + 1 : Nat)))] ?_, i + 1, by omega, rfl, rfl⟩
          simp only [List.forall_mem_cons, List.not_mem_nil, false_imp_iff, implies_true, and_true, hw, est, e5, e7, e10, e11, e12, Option.toList, List.append_nil]
          try simp -dsimp only [Vm.E, List.lookup, Nat.reduceAdd, Nat.reduceBEq, Int.reduceBNe, Int.reduceBEq, Bool.true_beq, Bool.false_beq, Vm.S, Nat.reduceLeDiff, q14, hw, est, e5, e7, e10, e11, e12, Option.toList, List.append_nil]
          repeat' first | exact Fg.refl _ | exact Fg.nil _ _ _ (by decide) | refine And.intro ?_ ?_
    · have hge : ¬ i < ns.length := by have := of_decide_eq_false hcc; omega
      simp -dsimp only [Vm.E, List.lookup, Nat.reduceAdd, Nat.reduceBEq, Int.reduceBNe, Int.reduceBEq, Bool.true_beq, Bool.false_beq, Vm.S, Nat.reduceLeDiff, q14]
      rw [List.take_of_length_le (by omega)]
      exact hq
theorem alEq (x y : Al) : ((x.node == y.node) && ((x.level == y.level) && ((x.limit == y.limit) && ((x.used == y.used) && ((x.left == y.left) && (x.share == y.share)))))) = true ↔ x = y := by
  obtain ⟨a, b, c, d, e, f⟩ := x
  obtain ⟨a2, b2, c2, d2, e2, f2⟩ := y
  simp [and_assoc]
def eqSpecAl : Vm.Spec := fun args h Q => ∃ l l' : List Al, l.length ≤ 9223372036854775807 ∧ args = [.sl 6 (l.map alAv), .sl 6 (l'.map alAv)] ∧ ∀ b : Bool, (b = true ↔ l = l') → Q (.v (.bool b)) h
set_option maxHeartbeats 1000000 in
theorem does_eqAl : Does Tryz.prog 70 eqSpecAl := by
  refine does_of_awp good_nil Tryz.func70 rfl (by decide +kernel) (by decide +kernel) ?_
  rintro args h Q ⟨l, l', hl, rfl, hq⟩
  refine ⟨by simp [Tryz.f70], ?_⟩
  rw [awpFunc_some (by rfl)]
  simp -dsimp only [Vm.E, List.lookup, Nat.reduceAdd, Nat.reduceBEq, Int.reduceBNe, Int.reduceBEq, Bool.true_beq, Bool.false_beq, Vm.S, Nat.reduceLeDiff, q70]
  by_cases hlen : l.length = l'.length
  · have c1 : ((l.length : Int) != l'.length) = false := by simp [hlen]
    simp -dsimp only [Vm.E, List.lookup, Nat.reduceAdd, Nat.reduceBEq, Int.reduceBNe, Int.reduceBEq, Bool.true_beq, Bool.false_beq, Vm.S, Nat.reduceLeDiff, q70, c1]
    refine awp_loop (fun m s h' => ∃ i : Nat, i + m = l.length ∧ h' = h ∧ (∀ j (hj : j < l.length), j < i → l[j] = l'[j]'(by omega)) ∧ s = mk [(0, .sl 6 (l.map alAv)), (1, .sl 6 (l'.map alAv)), (12, .v (.int .i64 l.length)), (13, .v (.int .i64 i))])
      l.length _ (le_mk _ ?_) ⟨0, by omega, rfl, fun j _ hj => by omega, rfl⟩ ?_
    · simp only [List.forall_mem_cons, List.not_mem_nil, false_imp_iff, implies_true, and_true]
      try simp -dsimp only [Vm.E, List.lookup, Nat.reduceAdd, Nat.reduceBEq, Int.reduceBNe, Int.reduceBEq, Bool.true_beq, Bool.false_beq, Vm.S, Nat.reduceLeDiff, q70]
      repeat' first | exact Fg.refl _ | exact Fg.nil _ _ _ (by decide) | refine And.intro ?_ ?_
    · rintro m s h' ⟨i, hi, rfl, hb, rfl⟩
      simp -dsimp only [Vm.E, List.lookup, Nat.reduceAdd, Nat.reduceBEq, Int.reduceBNe, Int.reduceBEq, Bool.true_beq, Bool.false_beq, Vm.S, Nat.reduceLeDiff, q70]
      refine cond_intro (fun hcc => ?_) (fun hcc => ?_)
      · have hlt : i < l.length := by have := of_decide_eq_true hcc; omega
        have hlt' : i < l'.length := by omega
        obtain ⟨x, hx⟩ : ∃ x, l[i] = x := ⟨_, rfl⟩
        obtain ⟨y, hy⟩ : ∃ y, l'[i] = y := ⟨_, rfl⟩
        have hw : IntKind.i64.wrap ((i : Int) + 1) = ((i + 1 : Nat) : Int) := by rw [wrap_i64 (by omega) (by omega)]; simp
        simp -dsimp only [Vm.E, List.lookup, Nat.reduceAdd, Nat.reduceBEq, Int.reduceBNe, Int.reduceBEq, Bool.true_beq, Bool.false_beq, Vm.S, Nat.reduceLeDiff, q70]
        refine draw_cont [] (.take 0 (.take 1 (.take 2 (.take 3 (.take 4 (.take 5 (.take 6 (.take 7 (.take 8 (.done)))))))))) (fun s hx => hx = h' ∧ (∃ b : Bool, (b = true ↔ x = y) ∧ s 24 = .v (.bool (!b))) ∧ s 0 = .sl 6 (l.map alAv) ∧ s 1 = .sl 6 (l'.map alAv) ∧ s 12 = .v (.int .i64 l.length) ∧ s 13 = .v (.int .i64 i)) (by kernel_rfl) (by kernel_rfl) (by kernel_rfl) (by decide) ?_ ?_
        · simp -dsimp only [Vm.E, List.lookup, Nat.reduceAdd, Nat.reduceBEq, Int.reduceBNe, Int.reduceBEq, Bool.true_beq, Bool.false_beq, Vm.S, Nat.reduceLeDiff, q70]
          refine idx_map alAv l i hlt ?_
          simp only [hx, alAv, alCells]
          simp -dsimp only [Vm.E, List.lookup, Nat.reduceAdd, Nat.reduceBEq, Int.reduceBNe, Int.reduceBEq, Bool.true_beq, Bool.false_beq, Vm.S, Nat.reduceLeDiff, q70, AV.cells]
          refine idx_map alAv l' i hlt' ?_
          simp only [hy, alAv, alCells]
          simp -dsimp only [Vm.E, List.lookup, Nat.reduceAdd, Nat.reduceBEq, Int.reduceBNe, Int.reduceBEq, Bool.true_beq, Bool.false_beq, Vm.S, Nat.reduceLeDiff, q70, AV.cells]
          refine eq_agg fd35 rfl ?_
          simp -dsimp only [Vm.E, List.lookup, Nat.reduceAdd, Nat.reduceBEq, Int.reduceBNe, Int.reduceBEq, Bool.true_beq, Bool.false_beq, Vm.S, Nat.reduceLeDiff, q70]
          refine ⟨⟨_, alEq x y, rfl⟩, ?_⟩
          repeat' first | rfl | exact True.intro | refine And.intro ?_ ?_
        · rintro s hx2 ⟨rfl, ⟨b, hbe, e24⟩, e0, e1, e12, e13⟩
          cases b
          · have hne : ¬ l = l' := fun e => by
              have : x = y := by subst e; rw [← hx, ← hy]
              have := hbe.2 this
              cases this
            simp -dsimp only [Vm.E, List.lookup, Nat.reduceAdd, Nat.reduceBEq, Int.reduceBNe, Int.reduceBEq, Bool.true_beq, Bool.false_beq, Vm.S, Nat.reduceLeDiff, q70, e24, e0, e1, e12, e13]
            exact hq false ⟨fun h => (by cases h), fun h => (hne h).elim⟩
          · have he := hbe.1 rfl
            simp -dsimp only [Vm.E, List.lookup, Nat.reduceAdd, Nat.reduceBEq, Int.reduceBNe, Int.reduceBEq, Bool.true_beq, Bool.false_beq, Vm.S, Nat.reduceLeDiff, q70, e24, e0, e1, e12, e13]
            refine kept_intro ⟨l.length - (i + 1), by omega, _, le_mk [(0, .sl 6 (l.map alAv)), (1, .sl 6 (l'.map alAv)), (12, .v (.int .i64 l.length)), (13, .v (.int .i64 (i + 1 : Nat)))] ?_, i + 1, by omega, rfl, fun j hj hj2 => ?_, rfl⟩
            · simp only [List.forall_mem_cons, List.not_mem_nil, false_imp_iff, implies_true, and_true, hw, e24, e0, e1, e12, e13]
              try simp -dsimp only [Vm.E, List.lookup, Nat.reduceAdd, Nat.reduceBEq, Int.reduceBNe, Int.reduceBEq, Bool.true_beq, Bool.false_beq, Vm.S, Nat.reduceLeDiff, q70, hw, e24, e0, e1, e12, e13]
              repeat' first | exact Fg.refl _ | exact Fg.nil _ _ _ (by decide) | refine And.intro ?_ ?_
            · by_cases hji : j = i
              · subst hji; rw [hx, hy]; exact he
              · exact hb j hj (by omega)
      · have hge : ¬ i < l.length := by have := of_decide_eq_false hcc; omega
        have he : l = l' := List.ext_getElem hlen fun j h1 h2 => hb j h1 (by omega)
        simp -dsimp only [Vm.E, List.lookup, Nat.reduceAdd, Nat.reduceBEq, Int.reduceBNe, Int.reduceBEq, Bool.true_beq, Bool.false_beq, Vm.S, Nat.reduceLeDiff, q70]
        exact hq true ⟨fun _ => he, fun _ => rfl⟩
  · have c1 : ((l.length : Int) != l'.length) = true := by simp; omega
    simp -dsimp only [Vm.E, List.lookup, Nat.reduceAdd, Nat.reduceBEq, Int.reduceBNe, Int.reduceBEq, Bool.true_beq, Bool.false_beq, Vm.S, Nat.reduceLeDiff, q70, c1]
    exact hq false ⟨fun h => (by cases h), fun h => (hlen (by rw [h])).elim⟩
/-- The sum of lines that stand at the top. -/
def addL (t x : Al) : Al := if x.level ≠ 0 then t else { t with node := w64 (t.node + 1), limit := w64 (t.limit + x.limit), used := w64 (t.used + x.used), left := w64 (t.left + x.left) }
def Al.zero : Al := ⟨0, 0, 0, 0, 0, 0⟩
def totalOf (l : List Al) : Al := { l.foldl addL .zero with share := shareOf (l.foldl addL .zero).used (l.foldl addL .zero).limit }
def totalSpec : Vm.Spec := fun args h Q => ∃ l : List Al, l.length ≤ 9223372036854775807 ∧ args = [.sl 6 (l.map alAv)] ∧ Q (.agg (alCells (totalOf l))) h
set_option maxRecDepth 20000 in
set_option maxHeartbeats 2000000 in
theorem does_total : Does Tryz.prog 25 totalSpec := by
  refine does_of_awp (good_cons does_share good_nil) Tryz.func25 rfl (by decide +kernel) (by decide +kernel) ?_
  rintro args h Q ⟨l, hl, rfl, hq⟩
  refine ⟨by simp [Tryz.f25], ?_⟩
  rw [awpFunc_some (by rfl)]
  unfold totalOf at hq
  simp -dsimp only [Vm.E, List.lookup, Nat.reduceAdd, Nat.reduceBEq, Int.reduceBNe, Int.reduceBEq, Bool.true_beq, Bool.false_beq, Vm.S, Nat.reduceLeDiff, q25]
  refine awp_loop (fun m s h' => ∃ (i : Nat) (t : Al), i + m = l.length ∧ h' = h ∧ t = (l.take i).foldl addL .zero ∧ s = mk [(2, .box [.v (.int .i64 0), .v (.int .i64 0), .v (.int .i64 0), .v (.int .i64 0), .v (.int .i64 0), .v (.int .i64 0)]), (3, .box [.v (.int .i64 (t).node), .v (.int .i64 (t).level), .v (.int .i64 (t).limit), .v (.int .i64 (t).used), .v (.int .i64 (t).left), .v (.int .i64 (t).share)]), (6, .sl 6 (l.map alAv)), (7, .v (.int .i64 l.length)), (8, .v (.int .i64 (i : Nat)))])
    l.length _ (le_mk _ ?_) ⟨0, .zero, by omega, rfl, rfl, rfl⟩ ?_
  · simp only [List.forall_mem_cons, List.not_mem_nil, false_imp_iff, implies_true, and_true, Al.zero]
    try simp -dsimp only [Vm.E, List.lookup, Nat.reduceAdd, Nat.reduceBEq, Int.reduceBNe, Int.reduceBEq, Bool.true_beq, Bool.false_beq, Vm.S, Nat.reduceLeDiff, q25, Al.zero]
    repeat' first | exact Fg.refl _ | exact Fg.nil _ _ _ (by decide) | refine And.intro ?_ ?_
  · rintro m s h' ⟨i, t, hi, rfl, ht, rfl⟩
    simp -dsimp only [Vm.E, List.lookup, Nat.reduceAdd, Nat.reduceBEq, Int.reduceBNe, Int.reduceBEq, Bool.true_beq, Bool.false_beq, Vm.S, Nat.reduceLeDiff, q25]
    refine cond_intro (fun hcc => ?_) (fun hcc => ?_)
    · have hlt : i < l.length := by have := of_decide_eq_true hcc; omega
      have hw : IntKind.i64.wrap ((i : Int) + 1) = ((i + 1 : Nat) : Int) := by rw [wrap_i64 (by omega) (by omega)]; simp
      have hxe : ∃ x, l[i] = x := ⟨_, rfl⟩
      rcases hxe with ⟨x, hx⟩
      have est : (l.take (i + 1)).foldl addL .zero = addL t x := by rw [List.take_succ_eq_append_getElem hlt, List.foldl_append, ← ht, hx]; rfl
      simp -dsimp only [Vm.E, List.lookup, Nat.reduceAdd, Nat.reduceBEq, Int.reduceBNe, Int.reduceBEq, Bool.true_beq, Bool.false_beq, Vm.S, Nat.reduceLeDiff, q25]
      refine idx_map alAv l i hlt ?_
      simp only [hx, alAv, alCells]
      simp -dsimp only [Vm.E, List.lookup, Nat.reduceAdd, Nat.reduceBEq, Int.reduceBNe, Int.reduceBEq, Bool.true_beq, Bool.false_beq, Vm.S, Nat.reduceLeDiff, q25, AV.cells]
      have hd := Bool.eq_false_or_eq_true (x.level != 0)
      rcases hd with c | c
      · have hadd : addL t x = t := by unfold addL; rw [if_pos (by simpa using c)]
        rw [hadd] at est
        simp -dsimp only [Vm.E, List.lookup, Nat.reduceAdd, Nat.reduceBEq, Int.reduceBNe, Int.reduceBEq, Bool.true_beq, Bool.false_beq, Vm.S, Nat.reduceLeDiff, q25, c]
        refine kept_intro ⟨l.length - (i + 1), by omega, _, le_mk [(2, .box [.v (.int .i64 0), .v (.int .i64 0), .v (.int .i64 0), .v (.int .i64 0), .v (.int .i64 0), .v (.int .i64 0)]), (3, .box [.v (.int .i64 (t).node), .v (.int .i64 (t).level), .v (.int .i64 (t).limit), .v (.int .i64 (t).used), .v (.int .i64 (t).left), .v (.int .i64 (t).share)]), (6, .sl 6 (l.map alAv)), (7, .v (.int .i64 l.length)), (8, .v (.int .i64 (i + 1 : Nat)))] ?_, i + 1, t, by omega, rfl, est.symm, rfl⟩
        simp only [List.forall_mem_cons, List.not_mem_nil, false_imp_iff, implies_true, and_true, hw]
        try simp -dsimp only [Vm.E, List.lookup, Nat.reduceAdd, Nat.reduceBEq, Int.reduceBNe, Int.reduceBEq, Bool.true_beq, Bool.false_beq, Vm.S, Nat.reduceLeDiff, q25, hw]
        repeat' first | exact Fg.refl _ | exact Fg.nil _ _ _ (by decide) | refine And.intro ?_ ?_
      · have hadd : addL t x = { t with node := w64 (t.node + 1), limit := w64 (t.limit + x.limit), used := w64 (t.used + x.used), left := w64 (t.left + x.left) } := by unfold addL; rw [if_neg (by simpa using c)]
        rw [hadd] at est
        simp -dsimp only [Vm.E, List.lookup, Nat.reduceAdd, Nat.reduceBEq, Int.reduceBNe, Int.reduceBEq, Bool.true_beq, Bool.false_beq, Vm.S, Nat.reduceLeDiff, q25, c]
        refine kept_intro ⟨l.length - (i + 1), by omega, _, le_mk [(2, .box [.v (.int .i64 0), .v (.int .i64 0), .v (.int .i64 0), .v (.int .i64 0), .v (.int .i64 0), .v (.int .i64 0)]), (3, .box [.v (.int .i64 (({ t with node := w64 (t.node + 1), limit := w64 (t.limit + x.limit), used := w64 (t.used + x.used), left := w64 (t.left + x.left) } : Al)).node), .v (.int .i64 (({ t with node := w64 (t.node + 1), limit := w64 (t.limit + x.limit), used := w64 (t.used + x.used), left := w64 (t.left + x.left) } : Al)).level), .v (.int .i64 (({ t with node := w64 (t.node + 1), limit := w64 (t.limit + x.limit), used := w64 (t.used + x.used), left := w64 (t.left + x.left) } : Al)).limit), .v (.int .i64 (({ t with node := w64 (t.node + 1), limit := w64 (t.limit + x.limit), used := w64 (t.used + x.used), left := w64 (t.left + x.left) } : Al)).used), .v (.int .i64 (({ t with node := w64 (t.node + 1), limit := w64 (t.limit + x.limit), used := w64 (t.used + x.used), left := w64 (t.left + x.left) } : Al)).left), .v (.int .i64 (({ t with node := w64 (t.node + 1), limit := w64 (t.limit + x.limit), used := w64 (t.used + x.used), left := w64 (t.left + x.left) } : Al)).share)]), (6, .sl 6 (l.map alAv)), (7, .v (.int .i64 l.length)), (8, .v (.int .i64 (i + 1 : Nat)))] ?_, i + 1, _, by omega, rfl, est.symm, rfl⟩
        simp only [List.forall_mem_cons, List.not_mem_nil, false_imp_iff, implies_true, and_true, hw]
        try simp -dsimp only [Vm.E, List.lookup, Nat.reduceAdd, Nat.reduceBEq, Int.reduceBNe, Int.reduceBEq, Bool.true_beq, Bool.false_beq, Vm.S, Nat.reduceLeDiff, q25, hw]
        repeat' first | exact Fg.refl _ | exact Fg.nil _ _ _ (by decide) | refine And.intro ?_ ?_
    · have hge : ¬ i < l.length := by have := of_decide_eq_false hcc; omega
      rw [List.take_of_length_le (by omega)] at ht
      rw [← ht] at hq
      simp only [alCells] at hq
      simp -dsimp only [Vm.E, List.lookup, Nat.reduceAdd, Nat.reduceBEq, Int.reduceBNe, Int.reduceBEq, Bool.true_beq, Bool.false_beq, Vm.S, Nat.reduceLeDiff, q25]
      refine call_one (S := shareSpec) rfl _ GaL.rfl ⟨t.used, t.limit, rfl, ?_⟩
      simp -dsimp only [Vm.E, List.lookup, Nat.reduceAdd, Nat.reduceBEq, Int.reduceBNe, Int.reduceBEq, Bool.true_beq, Bool.false_beq, Vm.S, Nat.reduceLeDiff, q25]
      exact hq
end Go.Proofs.Lx
/- The law ActualBeyond. -/
set_option linter.unusedSimpArgs false
set_option linter.unusedVariables false
namespace Go.Proofs.Lx
open Go.Vm
attribute [local irreducible] awpArr awpBin awpMake awpAppend awpCvX awpStrOf awpBinX awpSlice awpBS awpStore awpAlloc awpCopy awpIndex awpDraw awpIdxX awpFa awpField awpLookup awpUpdate awpDelete awpClear awpRange awpNext awpEntry awpBuild awpClearS awpIdxL awpTree appB awpIdxO eltA treeA
def nb1 : Nd := { Nd.zero with year := 2020, id := 1, limit := 8, pre := 2 }
def nbF : Fun := upd noF (ndK nb1) (some (ndV nb1))
def nbL : List KV := tput (ndK nb1) (ndV nb1) []
theorem nbT : TabIs nbF nbL := TabIs.new.put _ _
theorem nb1_ok : nb1.ok := by simp [Nd.ok, nb1, Nd.zero, I64]
def al1 : Al := ⟨1, 0, 8, 2, 6, 2500⟩
theorem nb_lines : (allN 2020 (nbL.filter fun p => (keyOf 78 [2020]).isPrefixOf p.1)).map (alOf nbF 2020) = [al1] := by kernel_rfl
theorem al1_total : (totalOf [al1]).node = 1 := by kernel_rfl
set_option maxRecDepth 20000 in
set_option maxHeartbeats 1000000 in
theorem does_law50awake : Does Tryz.prog 11 trueSpec := by
  refine does_of_awp (good_cons does_vnewA (good_cons does_tput (good_cons does_alines (good_cons does_share (good_cons does_eqAl (good_cons does_total good_nil)))))) Tryz.func11 rfl (by decide +kernel) (by decide +kernel) ?_
  rintro args h Q ⟨rfl, hq⟩
  refine ⟨by simp [Tryz.f11], ?_⟩
  rw [awpFunc_some (by rfl)]
  simp -dsimp only [Vm.E, List.lookup, Nat.reduceAdd, Nat.reduceBEq, Int.reduceBNe, Int.reduceBEq, Bool.true_beq, Bool.false_beq, Vm.S, Nat.reduceLeDiff, q11]
  refine call_one (S := vnewASpec) rfl _ GaL.rfl ⟨rfl, fun V h0 hV => ?_⟩
  simp -dsimp only [Vm.E, List.lookup, Nat.reduceAdd, Nat.reduceBEq, Int.reduceBNe, Int.reduceBEq, Bool.true_beq, Bool.false_beq, Vm.S, Nat.reduceLeDiff, q11]
  refine call_one (S := tputSpec) rfl _ GaL.rfl ⟨V, _, nb1, rfl, nb1_ok, hV, fun h1 hV1 _ => ?_⟩
  simp -dsimp only [Vm.E, List.lookup, Nat.reduceAdd, Nat.reduceBEq, Int.reduceBNe, Int.reduceBEq, Bool.true_beq, Bool.false_beq, Vm.S, Nat.reduceLeDiff, q11]
  refine call_one (S := alinesSpec) rfl _ GaL.rfl ⟨V, nbF, 2020, rfl, hV1, by decide, fun l h3 hsc _ hV3 _ => ?_⟩
  rw [hsc.same (nbT.scan _), nb_lines]
  simp -dsimp only [Vm.E, List.lookup, Nat.reduceAdd, Nat.reduceBEq, Int.reduceBNe, Int.reduceBEq, Bool.true_beq, Bool.false_beq, Vm.S, Nat.reduceLeDiff, q11, List.map_cons, List.map_nil]
  refine nil_pointer Tryz.underlying24 ?_
  have hs : shareOf 1 4 = 2500 := by decide
  simp -dsimp only [Vm.E, List.lookup, Nat.reduceAdd, Nat.reduceBEq, Int.reduceBNe, Int.reduceBEq, Bool.true_beq, Bool.false_beq, Vm.S, Nat.reduceLeDiff, q11]
  refine call_one (S := shareSpec) rfl _ GaL.rfl ⟨1, 4, rfl, ?_⟩
  rw [hs]
  simp -dsimp only [Vm.E, List.lookup, Nat.reduceAdd, Nat.reduceBEq, Int.reduceBNe, Int.reduceBEq, Bool.true_beq, Bool.false_beq, Vm.S, Nat.reduceLeDiff, q11]
  refine bs_intro zr35 (by decide) (by decide) rfl rfl (by simp [solid, AV.cells]) ?_
  simp -dsimp only [Vm.E, List.lookup, Nat.reduceAdd, Nat.reduceBEq, Int.reduceBNe, Int.reduceBEq, Bool.true_beq, Bool.false_beq, Vm.S, Nat.reduceLeDiff, q11]
  refine call_one (S := eqSpecAl) rfl _ GaL.rfl ⟨[al1], [al1], by simp, rfl, fun b hb => ?_⟩
  have hb : b = true := hb.2 rfl
  subst hb
  simp -dsimp only [Vm.E, List.lookup, Nat.reduceAdd, Nat.reduceBEq, Int.reduceBNe, Int.reduceBEq, Bool.true_beq, Bool.false_beq, Vm.S, Nat.reduceLeDiff, q11]
  refine call_one (S := totalSpec) rfl _ GaL.rfl ⟨[al1], by simp, rfl, ?_⟩
  have ht := al1_total
  generalize totalOf [al1] = t at ht ⊢
  simp only [alCells, ht]
  simp -dsimp only [Vm.E, List.lookup, Nat.reduceAdd, Nat.reduceBEq, Int.reduceBNe, Int.reduceBEq, Bool.true_beq, Bool.false_beq, Vm.S, Nat.reduceLeDiff, q11]
  exact hq _
theorem mask40 (a : Int) : 0 ≤ Go.bits .and .i64 a 1099511627775 ∧ Go.bits .and .i64 a 1099511627775 ≤ 1099511627775 := by
  have hd : (BitVec.ofInt 64 (1099511627775 : Int)).toNat = 1099511627775 := by decide
  have e : Go.bits .and .i64 a 1099511627775 = IntKind.i64.wrap ((BitVec.ofInt 64 a &&& BitVec.ofInt 64 (1099511627775 : Int)).toNat : Int) := rfl
  have h : (BitVec.ofInt 64 a &&& BitVec.ofInt 64 (1099511627775 : Int)).toNat ≤ 1099511627775 := by
    rw [BitVec.toNat_and, hd]; exact Nat.and_le_right
  rw [e, wrap_i64 (by omega) (by omega)]
  omega
/-- A node whose numbers are small. -/
def Low (m : Nd) : Prop := m.ok ∧ m.year = 2020 ∧ (0 ≤ m.limit ∧ m.limit ≤ 1099511627775) ∧ (0 ≤ m.pre ∧ m.pre ≤ 1099511627775) ∧ (0 ≤ m.enc ∧ m.enc ≤ 1099511627775) ∧ (0 ≤ m.exp ∧ m.exp ≤ 1099511627775)
def AllLow (f : Fun) : Prop := ∀ k v, f k = some v → ∃ m, Low m ∧ k = ndK m ∧ v = ndV m
theorem AllLow.new : AllLow noF := fun k v h => by cases h
theorem AllLow.put {f : Fun} (h : AllLow f) {m : Nd} (hm : Low m) : AllLow (upd f (ndK m) (some (ndV m))) := fun k v hk => by
  rw [upd_app] at hk
  split at hk
  · rename_i e; cases hk; exact ⟨m, hm, e, rfl⟩
  · exact h k v hk
theorem nodeOf_low {m : Nd} (hm : Low m) : nodeOf (ndK m) (ndV m) = some { m with id := clampK m.id } := by
  have hv : ndV m = packs 8 (ndVal m) := rfl
  have hn : numsOf (packs 8 (ndVal m)) 10 = ndVal m := by
    refine numsOf_packs (ndVal m) fun x hx => ?_
    obtain ⟨o1, o2, o3, o4, o5, o6, o7, o8, o9, o10, o11⟩ := hm.1
    have ob := bit_i64 m.abs
    simp only [ndVal, List.mem_cons, List.not_mem_nil, or_false] at hx
    rcases hx with rfl | rfl | rfl | rfl | rfl | rfl | rfl | rfl | rfl | rfl <;> assumption
  unfold nodeOf numsPair
  rw [ndK, splitOf_key 78 (ndKey m) (by simp [ndKey])]
  have hy := hm.2.1
  have hk : (ndKey m).map clampK = [m.year, clampK m.id] := by simp [ndKey, hy, clampK_id]
  simp only [hk]
  rw [if_pos ⟨trivial, rfl, ndV_length m⟩, hv, hn]
  obtain ⟨a1, a2, a3, a4, a5, a6, a7, a8, a9, a10, a11, a12⟩ := m
  simp [ndOf, ndVal, bit_ne]
/-- The nodes that are found. -/
theorem low_found {f : Fun} {l : List KV} (hf : AllLow f) (hsc : ScanIs f (keyOf 78 [2020]) l) {n : Nd} (hn : n ∈ allN 2020 l) : ∃ m, Low m ∧ f (ndK m) = some (ndV m) ∧ n = { m with id := clampK m.id } := by
  obtain ⟨p, hp, hpn⟩ := List.mem_filterMap.1 hn
  obtain ⟨k, v⟩ := p
  have h1 := ((hsc.2 k v).1 hp).1
  obtain ⟨m, hm, rfl, rfl⟩ := hf k v h1
  unfold inYear at hpn
  simp only [nodeOf_low hm] at hpn
  split at hpn
  · cases hpn; exact ⟨m, hm, h1, rfl⟩
  · cases hpn
theorem low_same {f : Fun} {l : List KV} (hf : AllLow f) (hsc : ScanIs f (keyOf 78 [2020]) l) {n n' : Nd} (hn : n ∈ allN 2020 l) (hn' : n' ∈ allN 2020 l) (h : n.id = n'.id) : n = n' := by
  obtain ⟨m, hm, h1, rfl⟩ := low_found hf hsc hn
  obtain ⟨m', hm', h1', rfl⟩ := low_found hf hsc hn'
  have hk : ndK m = ndK m' := by
    have e1 : ndK m = keyOf 78 ((ndKey m).map clampK) := (key_clamp ..).symm
    have e2 : ndK m' = keyOf 78 ((ndKey m').map clampK) := (key_clamp ..).symm
    rw [e1, e2]
    have h : clampK m.id = clampK m'.id := h
    simp [ndKey, hm.2.1, hm'.2.1, h]
  have hv : ndV m = ndV m' := by
    rw [hk, h1'] at h1
    exact (Option.some.inj h1).symm
  have g1 := nodeOf_low hm
  have g2 := nodeOf_low hm'
  rw [hk, hv, g2] at g1
  exact (Option.some.inj g1).symm
theorem bey_iff {f : Fun} {l : List KV} (hf : AllLow f) (hsc : ScanIs f (keyOf 78 [2020]) l) {n : Nd} (hn : n ∈ allN 2020 l) : n.id ∈ (allN 2020 l).filterMap beyOf ↔ usedOf n > n.limit := by
  constructor
  · intro h
    obtain ⟨n', hn', hb⟩ := List.mem_filterMap.1 h
    unfold beyOf at hb
    split at hb
    · rename_i hc
      have e := low_same hf hsc hn hn' (Option.some.inj hb).symm
      rw [e]; exact hc
    · cases hb
  · intro h
    exact List.mem_filterMap.2 ⟨n, hn, by unfold beyOf; rw [if_pos h]⟩
theorem low_used {n : Nd} (hp : 0 ≤ n.pre ∧ n.pre ≤ 1099511627775) (he : 0 ≤ n.enc ∧ n.enc ≤ 1099511627775) (hx : 0 ≤ n.exp ∧ n.exp ≤ 1099511627775) : usedOf n = n.pre + n.enc + n.exp := by
  unfold usedOf
  have e1 : w64 (n.pre + n.enc) = n.pre + n.enc := wrap_i64 (by omega) (by omega)
  rw [e1]
  exact wrap_i64 (by omega) (by omega)
theorem share_le {a b : Int} (ha : 0 ≤ a ∧ a ≤ 3298534883328) (hb : 0 ≤ b ∧ b ≤ 1099511627775) (h : a ≤ b) : shareOf a b ≤ 10000 := by
  unfold shareOf
  split
  · omega
  · rw [if_neg (by omega)]
    have e1 : capM a = a := by unfold capM; rw [if_neg (by omega)]
    have e2 : capM b = b := by unfold capM; rw [if_neg (by omega)]
    rw [e1, e2]
    have e3 : w64 (a * 10000) = a * 10000 := wrap_i64 (by omega) (by omega)
    rw [e3, Int.tdiv_eq_ediv_of_nonneg (by omega)]
    have hq : a * 10000 / b ≤ 10000 := Int.ediv_le_of_le_mul (by omega) (by omega)
    have hq0 : 0 ≤ a * 10000 / b := Int.ediv_nonneg (by omega) (by omega)
    rw [show w64 (a * 10000 / b) = a * 10000 / b from wrap_i64 (by omega) (by omega)]
    exact hq
theorem share_ge {a b : Int} (ha : 0 ≤ a ∧ a ≤ 3298534883328) (hb : 0 ≤ b ∧ b ≤ 1099511627775) (h : a > b) : ¬ shareOf a b < 10000 := by
  unfold shareOf
  rw [if_neg (by omega)]
  split
  · omega
  · have e1 : capM a = a := by unfold capM; rw [if_neg (by omega)]
    have e2 : capM b = b := by unfold capM; rw [if_neg (by omega)]
    rw [e1, e2]
    have e3 : w64 (a * 10000) = a * 10000 := wrap_i64 (by omega) (by omega)
    rw [e3, Int.tdiv_eq_ediv_of_nonneg (by omega)]
    have hq : 10000 ≤ a * 10000 / b := (Int.le_ediv_iff_mul_le (by omega)).2 (by omega)
    have hq1 : a * 10000 / b ≤ a * 10000 := Int.ediv_le_self _ (by omega)
    rw [show w64 (a * 10000 / b) = a * 10000 / b from wrap_i64 (by omega) (by omega)]
    omega
def abeySpec : Vm.Spec := fun args h Q => ∃ l : List Nd, l.length ≤ 9223372036854775807 ∧ (∀ n ∈ l, n.ok) ∧ args = [.sl 12 (l.map ndAv)] ∧ ∀ h', Q (.v (.bool true)) h'
def lowN (n : Nd) : Nd := { n with year := 2020, limit := Go.bits .and .i64 n.limit 1099511627775, pre := Go.bits .and .i64 n.pre 1099511627775, enc := Go.bits .and .i64 n.enc 1099511627775, exp := Go.bits .and .i64 n.exp 1099511627775 }
theorem lowN_low {n : Nd} (h : n.ok) : Low (lowN n) := by
  have m1 := mask40 n.limit
  have m2 := mask40 n.pre
  have m3 := mask40 n.enc
  have m4 := mask40 n.exp
  obtain ⟨o1, o2, o3, o4, o5, o6, o7, o8, o9, o10, o11⟩ := h
  refine ⟨⟨by show I64 2020; unfold I64; omega, o2, o3, o4, o5, ?_, ?_, ?_, ?_, o10, o11⟩, rfl, m1, m2, m3, m4⟩
  · show I64 (Go.bits .and .i64 n.limit 1099511627775); unfold I64; omega
  · show I64 (Go.bits .and .i64 n.pre 1099511627775); unfold I64; omega
  · show I64 (Go.bits .and .i64 n.enc 1099511627775); unfold I64; omega
  · show I64 (Go.bits .and .i64 n.exp 1099511627775); unfold I64; omega
set_option maxRecDepth 20000 in
set_option maxHeartbeats 4000000 in
theorem does_abey : Does Tryz.prog 3 abeySpec := by
  refine does_of_awp (good_cons does_vnewA (good_cons does_tput (good_cons does_beyond (good_cons does_alines (good_cons does_hasInt (good_cons does_law50awake good_nil)))))) Tryz.func3 rfl (by decide +kernel) (by decide +kernel) ?_
  rintro args h Q ⟨l, hl, hlok, rfl, hq⟩
  refine ⟨by simp [Tryz.f3], ?_⟩
  rw [awpFunc_some (by rfl)]
  simp -dsimp only [Vm.E, List.lookup, Nat.reduceAdd, Nat.reduceBEq, Int.reduceBNe, Int.reduceBEq, Bool.true_beq, Bool.false_beq, Vm.S, Nat.reduceLeDiff, q3]
  cases c30 : decide ((l.length : Int) > 30)
  · have d30 := of_decide_eq_false c30
    simp -dsimp only [Vm.E, List.lookup, Nat.reduceAdd, Nat.reduceBEq, Int.reduceBNe, Int.reduceBEq, Bool.true_beq, Bool.false_beq, Vm.S, Nat.reduceLeDiff, q3]
    refine call_one (S := vnewASpec) rfl _ GaL.rfl ⟨rfl, fun V h0 hV => ?_⟩
    simp -dsimp only [Vm.E, List.lookup, Nat.reduceAdd, Nat.reduceBEq, Int.reduceBNe, Int.reduceBEq, Bool.true_beq, Bool.false_beq, Vm.S, Nat.reduceLeDiff, q3]
    refine awp_loop (fun m s h' => ∃ (i : Nat) (f : Fun), i + m = l.length ∧ isView h' V f ∧ f.n ≤ i ∧ AllLow f ∧ s = mk [(3, .ptr V.iv 0), (15, .sl 12 (l.map ndAv)), (16, .v (.int .i64 l.length)), (17, .v (.int .i64 (i : Nat)))])
      l.length _ (le_mk _ ?_) ⟨0, noF, by omega, hV, Nat.le_refl _, .new, rfl⟩ ?_
    · simp only [List.forall_mem_cons, List.not_mem_nil, false_imp_iff, implies_true, and_true]
      try simp -dsimp only [Vm.E, List.lookup, Nat.reduceAdd, Nat.reduceBEq, Int.reduceBNe, Int.reduceBEq, Bool.true_beq, Bool.false_beq, Vm.S, Nat.reduceLeDiff, q3]
      repeat' first | exact Fg.refl _ | exact Fg.nil _ _ _ (by decide) | refine And.intro ?_ ?_
    · clear hV
      rintro m s h' ⟨i, f, hi, hV, hfn, hlow, rfl⟩
      simp -dsimp only [Vm.E, List.lookup, Nat.reduceAdd, Nat.reduceBEq, Int.reduceBNe, Int.reduceBEq, Bool.true_beq, Bool.false_beq, Vm.S, Nat.reduceLeDiff, q3]
      refine cond_intro (fun hcc => ?_) (fun hcc => ?_)
      · have hlt : i < l.length := by have := of_decide_eq_true hcc; omega
        have hw : IntKind.i64.wrap ((i : Int) + 1) = ((i + 1 : Nat) : Int) := by rw [wrap_i64 (by omega) (by omega)]; simp
        simp -dsimp only [Vm.E, List.lookup, Nat.reduceAdd, Nat.reduceBEq, Int.reduceBNe, Int.reduceBEq, Bool.true_beq, Bool.false_beq, Vm.S, Nat.reduceLeDiff, q3]
        have hok := hlok l[i] (List.getElem_mem hlt)
        refine idx_map ndAv l i hlt ?_
        generalize l[i] = n at hok
        have hlw := lowN_low hok
        simp only [ndAv, ndCells]
        simp -dsimp only [Vm.E, List.lookup, Nat.reduceAdd, Nat.reduceBEq, Int.reduceBNe, Int.reduceBEq, Bool.true_beq, Bool.false_beq, Vm.S, Nat.reduceLeDiff, q3, AV.cells]
        refine call_one (S := tputSpec) rfl _ GaL.rfl ⟨V, f, lowN n, rfl, hlw.1, hV, fun h2 hV2 _ => ?_⟩
        simp -dsimp only [Vm.E, List.lookup, Nat.reduceAdd, Nat.reduceBEq, Int.reduceBNe, Int.reduceBEq, Bool.true_beq, Bool.false_beq, Vm.S, Nat.reduceLeDiff, q3]
        refine kept_intro ⟨l.length - (i + 1), by omega, _, le_mk [(3, .ptr V.iv 0), (15, .sl 12 (l.map ndAv)), (16, .v (.int .i64 l.length)), (17, .v (.int .i64 (i + 1 : Nat)))] ?_, i + 1, _, by omega, hV2, by show f.n + 1 ≤ i + 1; omega, hlow.put hlw, rfl⟩
        simp only [List.forall_mem_cons, List.not_mem_nil, false_imp_iff, implies_true, and_true, hw]
        try simp -dsimp only [Vm.E, List.lookup, Nat.reduceAdd, Nat.reduceBEq, Int.reduceBNe, Int.reduceBEq, Bool.true_beq, Bool.false_beq, Vm.S, Nat.reduceLeDiff, q3, hw]
        repeat' first | exact Fg.refl _ | exact Fg.nil _ _ _ (by decide) | refine And.intro ?_ ?_
      · have hge : ¬ i < l.length := by have := of_decide_eq_false hcc; omega
        simp -dsimp only [Vm.E, List.lookup, Nat.reduceAdd, Nat.reduceBEq, Int.reduceBNe, Int.reduceBEq, Bool.true_beq, Bool.false_beq, Vm.S, Nat.reduceLeDiff, q3]
        refine call_one (S := beyondSpec) rfl _ GaL.rfl ⟨V, f, 2020, rfl, hV, by omega, fun kv h2 hsc hkl hV2 _ => ?_⟩
        simp -dsimp only [Vm.E, List.lookup, Nat.reduceAdd, Nat.reduceBEq, Int.reduceBNe, Int.reduceBEq, Bool.true_beq, Bool.false_beq, Vm.S, Nat.reduceLeDiff, q3]
        refine call_one (S := alinesSpec) rfl _ GaL.rfl ⟨V, f, 2020, rfl, hV2, by omega, fun kv2 h3 hsc2 _ hV3 _ => ?_⟩
        rw [hsc2.same hsc]
        have hf30 : f.n ≤ 30 := by omega
        have hnl := allN_length 2020 kv
        have hbl : ((allN 2020 kv).filterMap beyOf).length ≤ (allN 2020 kv).length := List.length_filterMap_le ..
        clear hi hcc hge
        simp -dsimp only [Vm.E, List.lookup, Nat.reduceAdd, Nat.reduceBEq, Int.reduceBNe, Int.reduceBEq, Bool.true_beq, Bool.false_beq, Vm.S, Nat.reduceLeDiff, q3, List.length_map]
        refine awp_loop (fun m s hx => ∃ (i : Nat) (b : Bool), i + m = (allN 2020 kv).length ∧ hx = h3 ∧ s = mk [(3, .ptr V.iv 0), (6, .own b 3 1 (((allN 2020 kv).filterMap beyOf).map encI)), (45, .own true 35 6 (((allN 2020 kv).map (alOf f 2020)).map alAv)), (46, .v (.int .i64 (allN 2020 kv).length)), (47, .v (.int .i64 (i : Nat)))])
          (allN 2020 kv).length _ (le_mk _ ?_) ⟨0, true, by omega, rfl, rfl⟩ ?_
        · simp only [List.forall_mem_cons, List.not_mem_nil, false_imp_iff, implies_true, and_true, List.length_map]
          try simp -dsimp only [Vm.E, List.lookup, Nat.reduceAdd, Nat.reduceBEq, Int.reduceBNe, Int.reduceBEq, Bool.true_beq, Bool.false_beq, Vm.S, Nat.reduceLeDiff, q3, List.length_map]
          repeat' first | exact Fg.refl _ | exact Fg.nil _ _ _ (by decide) | refine And.intro ?_ ?_
        · rintro m s hx ⟨i, b, hi, rfl, rfl⟩
          simp -dsimp only [Vm.E, List.lookup, Nat.reduceAdd, Nat.reduceBEq, Int.reduceBNe, Int.reduceBEq, Bool.true_beq, Bool.false_beq, Vm.S, Nat.reduceLeDiff, q3]
          refine cond_intro (fun hcc => ?_) (fun hcc => ?_)
          · have hlt : i < (allN 2020 kv).length := by have := of_decide_eq_true hcc; omega
            have hw : IntKind.i64.wrap ((i : Int) + 1) = ((i + 1 : Nat) : Int) := by rw [wrap_i64 (by omega) (by omega)]; simp
            have hmem : (allN 2020 kv)[i] ∈ allN 2020 kv := List.getElem_mem hlt
            have hget : (((allN 2020 kv).map (alOf f 2020)).map alAv)[i]? = some (alAv (alOf f 2020 (allN 2020 kv)[i])) := by simp [hlt]
            generalize (allN 2020 kv)[i] = n at hmem hget
            have hbey := bey_iff hlow hsc hmem
            have hfound := low_found hlow hsc hmem
            have hn : (0 ≤ n.limit ∧ n.limit ≤ 1099511627775) ∧ (0 ≤ usedOf n ∧ usedOf n ≤ 3298534883328) := by
              obtain ⟨m, hm, -, rfl⟩ := hfound
              have hu := low_used (n := { m with id := clampK m.id }) hm.2.2.2.1 hm.2.2.2.2.1 hm.2.2.2.2.2
              obtain ⟨-, -, h1, h2, h3, h4⟩ := hm
              exact ⟨h1, by rw [hu]; show 0 ≤ m.pre + m.enc + m.exp ∧ m.pre + m.enc + m.exp ≤ _; omega⟩
            obtain ⟨hn1, hn2⟩ := hn
            have hlf : w64 (n.limit - usedOf n) = n.limit - usedOf n := wrap_i64 (by omega) (by omega)
            simp -dsimp only [Vm.E, List.lookup, Nat.reduceAdd, Nat.reduceBEq, Int.reduceBNe, Int.reduceBEq, Bool.true_beq, Bool.false_beq, Vm.S, Nat.reduceLeDiff, q3]
            refine idxO_intro (by omega) (by simp; omega) ?_
            simp -dsimp only [Vm.E, List.lookup, Nat.reduceAdd, Nat.reduceBEq, Int.reduceBNe, Int.reduceBEq, Bool.true_beq, Bool.false_beq, Vm.S, Nat.reduceLeDiff, q3, Int.toNat_natCast]
            refine eltA_intro hget ?_
            simp only [alAv, alCells, alOf, hlf]
            generalize w64 ((pathOf f 2020 8 n.id).length - 1) = lev
            simp -dsimp only [Vm.E, List.lookup, Nat.reduceAdd, Nat.reduceBEq, Int.reduceBNe, Int.reduceBEq, Bool.true_beq, Bool.false_beq, Vm.S, Nat.reduceLeDiff, q3, AV.cells, List.drop_zero]
            refine call_one (S := hasIntSpec) rfl _ GaL.rfl ⟨(allN 2020 kv).filterMap beyOf, n.id, by omega, rfl, ?_⟩
            by_cases hgt : usedOf n > n.limit
            · have e1 : decide (n.id ∈ (allN 2020 kv).filterMap beyOf) = true := decide_eq_true (hbey.2 hgt)
              have e2 : decide (usedOf n > n.limit) = true := decide_eq_true hgt
              have e3 : decide (shareOf (usedOf n) n.limit < 10000) = false := decide_eq_false (share_ge hn2 hn1 hgt)
              rw [e1]
              simp -dsimp only [Vm.E, List.lookup, Nat.reduceAdd, Nat.reduceBEq, Int.reduceBNe, Int.reduceBEq, Bool.true_beq, Bool.false_beq, Vm.S, Nat.reduceLeDiff, q3, bool_neq, e2, e3, bne_self_eq_false]
              refine kept_intro ⟨(allN 2020 kv).length - (i + 1), by omega, _, le_mk [(3, .ptr V.iv 0), (6, .own false 3 1 (((allN 2020 kv).filterMap beyOf).map encI)), (45, .own true 35 6 (((allN 2020 kv).map (alOf f 2020)).map alAv)), (46, .v (.int .i64 (allN 2020 kv).length)), (47, .v (.int .i64 (i + 1 : Nat)))] ?_, i + 1, false, by omega, rfl, rfl⟩
              simp only [List.forall_mem_cons, List.not_mem_nil, false_imp_iff, implies_true, and_true, hw]
              try simp -dsimp only [Vm.E, List.lookup, Nat.reduceAdd, Nat.reduceBEq, Int.reduceBNe, Int.reduceBEq, Bool.true_beq, Bool.false_beq, Vm.S, Nat.reduceLeDiff, q3, hw]
              repeat' first | exact Fg.refl _ | exact Fg.nil _ _ _ (by decide) | refine And.intro ?_ ?_
            · have e1 : decide (n.id ∈ (allN 2020 kv).filterMap beyOf) = false := decide_eq_false fun hc => hgt (hbey.1 hc)
              have e2 : decide (usedOf n > n.limit) = false := decide_eq_false hgt
              have e3 : decide (shareOf (usedOf n) n.limit > 10000) = false := decide_eq_false (by have := share_le hn2 hn1 (by omega); omega)
              have e4 : decide (n.limit - usedOf n < 0) = false := decide_eq_false (by omega)
              rw [e1]
              simp -dsimp only [Vm.E, List.lookup, Nat.reduceAdd, Nat.reduceBEq, Int.reduceBNe, Int.reduceBEq, Bool.true_beq, Bool.false_beq, Vm.S, Nat.reduceLeDiff, q3, bool_neq, e2, e3, e4, bne_self_eq_false]
              refine kept_intro ⟨(allN 2020 kv).length - (i + 1), by omega, _, le_mk [(3, .ptr V.iv 0), (6, .own false 3 1 (((allN 2020 kv).filterMap beyOf).map encI)), (45, .own true 35 6 (((allN 2020 kv).map (alOf f 2020)).map alAv)), (46, .v (.int .i64 (allN 2020 kv).length)), (47, .v (.int .i64 (i + 1 : Nat)))] ?_, i + 1, false, by omega, rfl, rfl⟩
              simp only [List.forall_mem_cons, List.not_mem_nil, false_imp_iff, implies_true, and_true, hw]
              try simp -dsimp only [Vm.E, List.lookup, Nat.reduceAdd, Nat.reduceBEq, Int.reduceBNe, Int.reduceBEq, Bool.true_beq, Bool.false_beq, Vm.S, Nat.reduceLeDiff, q3, hw]
              repeat' first | exact Fg.refl _ | exact Fg.nil _ _ _ (by decide) | refine And.intro ?_ ?_
          · simp -dsimp only [Vm.E, List.lookup, Nat.reduceAdd, Nat.reduceBEq, Int.reduceBNe, Int.reduceBEq, Bool.true_beq, Bool.false_beq, Vm.S, Nat.reduceLeDiff, q3]
            refine call_one (S := trueSpec) rfl _ GaL.rfl ⟨rfl, fun hz => ?_⟩
            simp -dsimp only [Vm.E, List.lookup, Nat.reduceAdd, Nat.reduceBEq, Int.reduceBNe, Int.reduceBEq, Bool.true_beq, Bool.false_beq, Vm.S, Nat.reduceLeDiff, q3]
            exact hq _
  · simp -dsimp only [Vm.E, List.lookup, Nat.reduceAdd, Nat.reduceBEq, Int.reduceBNe, Int.reduceBEq, Bool.true_beq, Bool.false_beq, Vm.S, Nat.reduceLeDiff, q3]
    refine call_one (S := trueSpec) rfl _ GaL.rfl ⟨rfl, fun hz => ?_⟩
    simp -dsimp only [Vm.E, List.lookup, Nat.reduceAdd, Nat.reduceBEq, Int.reduceBNe, Int.reduceBEq, Bool.true_beq, Bool.false_beq, Vm.S, Nat.reduceLeDiff, q3]
    exact hq _
theorem abey_args {y0 : AV} (i0 : IsA (.sl (.agg [.int .i64, .int .i64, .int .i64, .int .i64, .int .i64, .bool, .int .i64, .int .i64, .int .i64, .int .i64, .int .i64, .int .i64])) y0) {Q : AV → Heap → Prop} (hq : ∀ h', Q (.v (.bool true)) h') : abeySpec [y0] [] Q := by
  obtain ⟨l, hl, rfl, hok⟩ := isA_list _ ndAv (fun y hy => isA_nd hy) i0
  exact ⟨l, hl, hok, rfl, hq⟩
end Go.Proofs.Lx
