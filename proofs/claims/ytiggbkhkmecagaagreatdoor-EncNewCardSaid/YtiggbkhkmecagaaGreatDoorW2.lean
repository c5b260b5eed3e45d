/- What the functions of the program do: their contracts. -/
import Derived.Test.YtiggbkhkmecagaaGreatDoorV2
import Derived.Test.YtiggbkhkmecagaaGreatDoorTFs
import Derived.Test.YtiggbkhkmecagaaGreatDoorW1
import Derived.Test.YtiggbkhkmecagaaGreatDoorShelfSs
/- Encumbrances: enc. -/
set_option linter.unusedSimpArgs false
set_option linter.unusedVariables false
namespace Go.Proofs.Lx
open Go.Vm
attribute [local irreducible] awpArr awpBin awpMake awpAppend awpCvX awpStrOf awpBinX awpSlice awpBS awpStore awpAlloc awpCopy awpIndex awpDraw awpIdxX awpFa awpField awpLookup awpUpdate awpDelete awpClear awpRange awpNext awpEntry awpBuild awpClearS awpIdxL awpTree appB awpIdxO eltA treeA
abbrev ordAv (V : VId) (year frm : Int) : AV := .agg [.ptr V.iv 0, .v (.int .i64 year), .v (.int .i64 frm)]
def etakeSpec : Vm.Spec := fun args h Q => ∃ (V : VId) (f : Fun) (year frm : Int) (x : Ln), I64 frm ∧ x.ok ∧ args = [ordAv V year frm, lnAv x] ∧ isView h V f ∧
  ∀ h', isView h' V (takeOne f frm x).1 → Same h h' [V.ic] → Q (.tup [dlAv (takeOne f frm x).2.1, .v (.int .i64 (takeOne f frm x).2.2)]) h'
set_option maxRecDepth 20000 in
set_option maxHeartbeats 2000000 in
theorem does_etake : Does Tryz.prog 156 etakeSpec := by
  refine does_of_awp (good_cons does_docsGet (good_cons does_docsOpen (good_cons does_docsSet good_nil))) Tryz.func156 rfl (by decide +kernel) (by decide +kernel) ?_
  rintro args h Q ⟨V, f, year, frm, x, hfr, hx, rfl, hV, hq⟩
  refine ⟨by simp [Tryz.f156], ?_⟩
  rw [awpFunc_some (by rfl)]
  unfold takeOne at hq
  simp only [lnAv, lnCells]
  simp -dsimp only [Vm.G, List.lookup, Nat.reduceAdd, Nat.reduceBEq, Int.reduceBNe, Int.reduceBEq, Nat.reduceLeDiff, q156]
  refine call_one (S := docsGetSpec) rfl _ GaL.rfl ⟨V, f, frm, rfl, hV, fun d own hd hl6 hdl => ?_, fun hn => ?_⟩
  · have ho := ownAt_some hd
    rw [ho] at hq
    simp only [dcCells]
    simp -dsimp only [Vm.G, List.lookup, Nat.reduceAdd, Nat.reduceBEq, Int.reduceBNe, Int.reduceBEq, Nat.reduceLeDiff, q156]
    have h1 := Bool.eq_false_or_eq_true (decide (x.node < 0))
    rcases h1 with c1 | c1
    · have d1 := of_decide_eq_true c1
      simp only [if_pos d1] at hq
      simp only [dlAv, dlCells, Dl.zero] at hq
      simp -dsimp only [Vm.G, List.lookup, Nat.reduceAdd, Nat.reduceBEq, Int.reduceBNe, Int.reduceBEq, Nat.reduceLeDiff, q156, c1]
      exact hq h hV (.refl _ _)
    · have d1 := of_decide_eq_false c1
      simp only [if_neg d1] at hq
      simp -dsimp only [Vm.G, List.lookup, Nat.reduceAdd, Nat.reduceBEq, Int.reduceBNe, Int.reduceBEq, Nat.reduceLeDiff, q156, c1]
      have h2 := Bool.eq_false_or_eq_true (decide (x.node ≥ (own.length : Int)))
      rcases h2 with c2 | c2
      · have d2 := of_decide_eq_true c2
        rw [List.getElem?_eq_none (by omega)] at hq
        simp only [dlAv, dlCells, Dl.zero] at hq
        simp -dsimp only [Vm.G, List.lookup, Nat.reduceAdd, Nat.reduceBEq, Int.reduceBNe, Int.reduceBEq, Nat.reduceLeDiff, q156, c2]
        exact hq h hV (.refl _ _)
      · have d2 := of_decide_eq_false c2
        have hlt : x.node.toNat < own.length := by omega
        have hye : ∃ y, own[x.node.toNat]? = some y := ⟨_, List.getElem?_eq_getElem hlt⟩
        rcases hye with ⟨y, hy⟩
        have hyo := docAt_ok hd y (List.mem_of_getElem? hy)
        have hgi : (own.map dlAv)[x.node.toNat]? = some (dlAv y) := by rw [List.getElem?_map, hy]; rfl
        rw [hy] at hq
        simp only at hq
        have hds := docsSet_own (f := f) (id := frm) (i := x.node) { y with liq := w64 (y.liq + x.amt) } (by omega) (by rw [ho]; omega)
        simp -dsimp only [Vm.G, List.lookup, Nat.reduceAdd, Nat.reduceBEq, Int.reduceBNe, Int.reduceBEq, Nat.reduceLeDiff, q156, c2]
        refine idxO_intro (xs := own.map dlAv) (by omega) (by simp; omega) ?_
        simp -dsimp only [Vm.G, List.lookup, Nat.reduceAdd, Nat.reduceBEq, Int.reduceBNe, Int.reduceBEq, Nat.reduceLeDiff, q156]
        refine eltA_intro (xs := own.map dlAv) hgi ?_
        simp only [dlAv, dlCells]
        simp -dsimp only [Vm.G, List.lookup, Nat.reduceAdd, Nat.reduceBEq, Int.reduceBNe, Int.reduceBEq, Nat.reduceLeDiff, q156, AV.cells, List.drop_zero]
        refine draw_cont [3] (.take 2 (.take 3 (.alt 0 (.alt 1 (.take 4 (.done)) .stop) .stop))) (fun s h2 => h2 = h ∧ s 40 = .v (.bool (decide (openD y < x.amt))) ∧ s 2 = .box [.ptr V.iv 0, .v (.int .i64 year), .v (.int .i64 frm)] ∧ s 3 = .eptr [.v (.int .i64 x.fund), .v (.int .i64 x.obj), .v (.int .i64 x.node), .v (.int .i64 x.amt)] ∧ s 4 = .box [.v (.int .i64 0), .v (.int .i64 0), .v (.int .i64 0), .v (.int .i64 0)] ∧ s 9 = .box [.v (.int .i64 y.node), .v (.int .i64 y.orig), .v (.int .i64 y.liq), .v (.int .i64 y.can)]) (by kernel_rfl) (by kernel_rfl) (by kernel_rfl) (by decide) ?_ ?_
        · clear hq
          simp -dsimp only [Vm.G, List.lookup, Nat.reduceAdd, Nat.reduceBEq, Int.reduceBNe, Int.reduceBEq, Nat.reduceLeDiff, q156]
          refine call_one (S := openDSpec) rfl _ GaL.rfl ⟨y, rfl, ?_⟩
          simp -dsimp only [Vm.G, List.lookup, Nat.reduceAdd, Nat.reduceBEq, Int.reduceBNe, Int.reduceBEq, Nat.reduceLeDiff, q156]
          repeat' first | rfl | exact True.intro | refine And.intro ?_ ?_
        · rintro s h2 ⟨rfl, e40, e2, e3, e4, e9⟩
          have h3 := Bool.eq_false_or_eq_true (decide (openD y < x.amt))
          rcases h3 with c3 | c3
          · have d3 := of_decide_eq_true c3
            simp only [if_pos d3] at hq
            simp only [dlAv, dlCells, Dl.zero] at hq
            simp -dsimp only [Vm.G, List.lookup, Nat.reduceAdd, Nat.reduceBEq, Int.reduceBNe, Int.reduceBEq, Nat.reduceLeDiff, q156, e40, e2, e3, e4, e9, c3]
            exact hq h2 hV (.refl _ _)
          · have d3 := of_decide_eq_false c3
            simp only [if_neg d3] at hq
            simp only [dlAv, dlCells] at hq
            have hy2 : Dl.ok { y with liq := w64 (y.liq + x.amt) } := ⟨hyo.1, hyo.2.1, w64_range _, hyo.2.2.2⟩
            simp -dsimp only [Vm.G, List.lookup, Nat.reduceAdd, Nat.reduceBEq, Int.reduceBNe, Int.reduceBEq, Nat.reduceLeDiff, q156, e40, e2, e3, e4, e9, c3]
            refine call_one (S := docsSetSpec) rfl _ GaL.rfl ⟨V, f, frm, x.node, { y with liq := w64 (y.liq + x.amt) }, hfr, hx.2.2.1, hy2, rfl, hV, fun h3 g1 g2 => ?_⟩
            rw [hds] at g1 ⊢
            simp only at g1 ⊢
            simp -dsimp only [Vm.G, List.lookup, Nat.reduceAdd, Nat.reduceBEq, Int.reduceBNe, Int.reduceBEq, Nat.reduceLeDiff, q156, e40, e2, e3, e4, e9, bne_self_eq_false]
            exact hq h3 g1 g2
  · have ho := ownAt_none hn
    rw [ho] at hq
    simp only [dcCells, Dc.zero]
    simp -dsimp only [Vm.G, List.lookup, Nat.reduceAdd, Nat.reduceBEq, Int.reduceBNe, Int.reduceBEq, Nat.reduceLeDiff, q156]
    have h1 := Bool.eq_false_or_eq_true (decide (x.node < 0))
    rcases h1 with c1 | c1
    · have d1 := of_decide_eq_true c1
      simp only [if_pos d1] at hq
      simp only [dlAv, dlCells, Dl.zero] at hq
      simp -dsimp only [Vm.G, List.lookup, Nat.reduceAdd, Nat.reduceBEq, Int.reduceBNe, Int.reduceBEq, Nat.reduceLeDiff, q156, c1]
      exact hq h hV (.refl _ _)
    · have d1 := of_decide_eq_false c1
      simp only [if_neg d1, List.getElem?_nil] at hq
      simp only [dlAv, dlCells, Dl.zero] at hq
      have c2 : decide (x.node ≥ 0) = true := decide_eq_true (by omega)
      simp -dsimp only [Vm.G, List.lookup, Nat.reduceAdd, Nat.reduceBEq, Int.reduceBNe, Int.reduceBEq, Nat.reduceLeDiff, q156, c1, c2]
      exact hq h hV (.refl _ _)
/-- What a taking answers: its lines, or an error. -/
def takeAns (q : Fun × List Dl × Int) (Q : AV → Heap → Prop) (h' : Heap) : Prop :=
  (q.2.2 = 0 → Q (.otup 0 true 62 4 (q.2.1.map dlAv) [.any, .v (.int .i64 0)]) h') ∧ (q.2.2 ≠ 0 → Q (.tup [.v (.slice none 0 0), .v (.int .i64 q.2.2)]) h')
def takeSpec : Vm.Spec := fun args h Q => ∃ (V : VId) (f : Fun) (kind year frm : Int) (l : List Ln), I64 frm ∧ (∀ x ∈ l, x.ok) ∧ l.length ≤ 1073741824 ∧ args = [.ptr V.iv 0, .v (.int .i64 kind), .v (.int .i64 year), .v (.int .i64 frm), .sl 4 (l.map lnAv)] ∧ isView h V f ∧
  ∀ h', isView h' V (takeOf f kind year frm l).1 → Same h h' [V.ic] → takeAns (takeOf f kind year frm l) Q h'
attribute [local irreducible] takeOne takeL
set_option maxRecDepth 20000 in
set_option maxHeartbeats 2000000 in
theorem does_take : Does Tryz.prog 78 takeSpec := by
  refine does_of_awpO 0 (good_cons does_docsGet (good_cons does_etake good_nil)) Tryz.func78 rfl (by decide +kernel) (by decide +kernel) ?_
  rintro args h Q ⟨V, f, kind, year, frm, l, hfr, hok, hl, rfl, hV, hq⟩
  refine ⟨by simp [Tryz.f78], ?_⟩
  rw [awpFuncO_some (by rfl)]
  unfold takeOf at hq
  simp -dsimp only [Vm.G, List.lookup, Nat.reduceAdd, Nat.reduceBEq, Int.reduceBNe, Int.reduceBEq, Nat.reduceLeDiff, q78]
  refine call_one (S := docsGetSpec) rfl _ GaL.rfl ⟨V, f, frm, rfl, hV, fun d own hd hl6 hdl => ?_, fun hn => ?_⟩
  · rw [hd] at hq
    simp only at hq
    simp only [dcCells]
    simp -dsimp only [Vm.G, List.lookup, Nat.reduceAdd, Nat.reduceBEq, Int.reduceBNe, Int.reduceBEq, Nat.reduceLeDiff, q78]
    have h1 := Bool.eq_false_or_eq_true (d.kind != kind)
    rcases h1 with c1 | c1
    · have d1 : d.kind ≠ kind := by simpa using c1
      rw [if_pos (.inl d1)] at hq
      have hq' := (hq h hV (.refl _ _)).2 (show (12 : Int) ≠ 0 by decide)
      simp -dsimp only [Vm.G, List.lookup, Nat.reduceAdd, Nat.reduceBEq, Int.reduceBNe, Int.reduceBEq, Nat.reduceLeDiff, q78, c1]
      exact hq'
    · have d1 : ¬ d.kind ≠ kind := by simpa using c1
      simp -dsimp only [Vm.G, List.lookup, Nat.reduceAdd, Nat.reduceBEq, Int.reduceBNe, Int.reduceBEq, Nat.reduceLeDiff, q78, c1]
      have h2 := Bool.eq_false_or_eq_true (d.year != year)
      rcases h2 with c2 | c2
      · have d2 : d.year ≠ year := by simpa using c2
        rw [if_pos (.inr d2)] at hq
        have hq' := (hq h hV (.refl _ _)).2 (show (12 : Int) ≠ 0 by decide)
        simp -dsimp only [Vm.G, List.lookup, Nat.reduceAdd, Nat.reduceBEq, Int.reduceBNe, Int.reduceBEq, Nat.reduceLeDiff, q78, c2]
        exact hq'
      · have d2 : ¬ d.year ≠ year := by simpa using c2
        rw [if_neg (fun h => h.elim d1 d2)] at hq
        simp -dsimp only [Vm.G, List.lookup, Nat.reduceAdd, Nat.reduceBEq, Int.reduceBNe, Int.reduceBEq, Nat.reduceLeDiff, q78, c2]
        refine awp_loop (fun m s h' => ∃ (i : Nat) (g : Fun) (out : List Dl), i + m = l.length ∧ out.length ≤ i ∧ isView h' V g ∧ Same h h' [V.ic] ∧ takeL frm (l.drop i) g out = takeL frm l f [] ∧ s = mk [(15, .box [.ptr V.iv 0, .v (.int .i64 year), .v (.int .i64 frm)]), (16, .own true 62 4 ((out).map dlAv)), (44, .sl 4 (l.map lnAv)), (45, .v (.int .i64 l.length)), (46, .v (.int .i64 (i : Nat)))])
          l.length _ (le_mk _ ?_) ⟨0, f, [], by omega, by simp, hV, .refl _ _, rfl, rfl⟩ ?_
        · simp only [List.forall_mem_cons, List.not_mem_nil, false_imp_iff, implies_true, and_true]
          try simp -dsimp only [Vm.G, List.lookup, Nat.reduceAdd, Nat.reduceBEq, Int.reduceBNe, Int.reduceBEq, Nat.reduceLeDiff, q78]
          repeat' first | exact Fg.refl _ | exact Fg.nil _ _ _ (by decide) | refine And.intro ?_ ?_
        · clear hV
          rintro m s h' ⟨i, g, out, hi, hol, hV, hsm, hp, rfl⟩
          simp -dsimp only [Vm.G, List.lookup, Nat.reduceAdd, Nat.reduceBEq, Int.reduceBNe, Int.reduceBEq, Nat.reduceLeDiff, q78]
          refine cond_intro (fun hcc => ?_) (fun hcc => ?_)
          · have hlt : i < l.length := by have := of_decide_eq_true hcc; omega
            have hw : IntKind.i64.wrap ((i : Int) + 1) = ((i + 1 : Nat) : Int) := by rw [wrap_i64 (by omega) (by omega)]; simp
            have hox := hok l[i] (List.getElem_mem hlt)
            rw [List.drop_eq_getElem_cons hlt] at hp
            have hxe : ∃ x, l[i] = x := ⟨_, rfl⟩
            rcases hxe with ⟨x, hx⟩
            rw [hx] at hp hox
            simp -dsimp only [Vm.G, List.lookup, Nat.reduceAdd, Nat.reduceBEq, Int.reduceBNe, Int.reduceBEq, Nat.reduceLeDiff, q78]
            refine idx_map lnAv l i hlt ?_
            simp only [hx, lnAv, lnCells]
            simp -dsimp only [Vm.G, List.lookup, Nat.reduceAdd, Nat.reduceBEq, Int.reduceBNe, Int.reduceBEq, Nat.reduceLeDiff, q78, AV.cells]
            refine call_one (S := etakeSpec) rfl _ GaL.rfl ⟨V, g, year, frm, x, hfr, hox, rfl, hV, fun h2 g1 g2 => ?_⟩
            rw [takeL_cons] at hp
            generalize takeOne g frm x = q at hp g1 ⊢
            rcases q with ⟨qf, qd, qe⟩
            simp only at hp g1 ⊢
            simp only [dlAv, dlCells]
            simp -dsimp only [Vm.G, List.lookup, Nat.reduceAdd, Nat.reduceBEq, Int.reduceBNe, Int.reduceBEq, Nat.reduceLeDiff, q78]
            have h3 := Bool.eq_false_or_eq_true (qe != 0)
            rcases h3 with c3 | c3
            · have d3 : qe ≠ 0 := by simpa using c3
              rw [if_pos d3] at hp
              rw [← hp] at hq
              have hq' := (hq h2 g1 (hsm.trans g2)).2 d3
              simp -dsimp only [Vm.G, List.lookup, Nat.reduceAdd, Nat.reduceBEq, Int.reduceBNe, Int.reduceBEq, Nat.reduceLeDiff, q78, c3]
              exact hq'
            · have d3 : ¬ qe ≠ 0 := by simpa using c3
              rw [if_neg d3] at hp
              simp -dsimp only [Vm.G, List.lookup, Nat.reduceAdd, Nat.reduceBEq, Int.reduceBNe, Int.reduceBEq, Nat.reduceLeDiff, q78, c3]
              refine bs_intro zr62 (by decide) (by decide) rfl rfl (by simp [solid, AV.cells]) ?_
              simp -dsimp only [Vm.G, List.lookup, Nat.reduceAdd, Nat.reduceBEq, Int.reduceBNe, Int.reduceBEq, Nat.reduceLeDiff, q78]
              refine app_sl Tryz.underlying55 (by simp [AV.cells]) (by simp only [List.length_map, List.length_cons, List.length_nil]; omega) ?_
              simp -dsimp only [Vm.G, List.lookup, Nat.reduceAdd, Nat.reduceBEq, Int.reduceBNe, Int.reduceBEq, Nat.reduceLeDiff, q78]
              refine kept_intro ⟨l.length - (i + 1), by omega, _, le_mk [(15, .box [.ptr V.iv 0, .v (.int .i64 year), .v (.int .i64 frm)]), (16, .own true 62 4 ((out ++ [qd]).map dlAv)), (44, .sl 4 (l.map lnAv)), (45, .v (.int .i64 l.length)), (46, .v (.int .i64 (i + 1 : Nat)))] ?_, i + 1, qf, out ++ [qd], by omega, by rw [List.length_append, List.length_singleton]; omega, g1, hsm.trans g2, hp, rfl⟩
              simp only [List.forall_mem_cons, List.not_mem_nil, false_imp_iff, implies_true, and_true, hw, dlAv, dlCells, List.map_append, List.map_cons, List.map_nil]
              try simp -dsimp only [Vm.G, List.lookup, Nat.reduceAdd, Nat.reduceBEq, Int.reduceBNe, Int.reduceBEq, Nat.reduceLeDiff, q78, hw, dlAv, dlCells, List.map_append, List.map_cons, List.map_nil]
              repeat' first | exact Fg.refl _ | exact Fg.nil _ _ _ (by decide) | refine And.intro ?_ ?_
          · have hge : ¬ i < l.length := by have := of_decide_eq_false hcc; omega
            rw [List.drop_of_length_le (by omega)] at hp
            have hp : (g, out, (0 : Int)) = takeL frm l f [] := by rw [← hp]; simp only [takeL]
            rw [← hp] at hq
            have hq' := (hq h' hV hsm).1 rfl
            simp -dsimp only [Vm.G, List.lookup, Nat.reduceAdd, Nat.reduceBEq, Int.reduceBNe, Int.reduceBEq, Nat.reduceLeDiff, q78]
            exact hq'
  · rw [hn] at hq
    have hq' := (hq h hV (.refl _ _)).2 (show (7 : Int) ≠ 0 by decide)
    simp only [dcCells, Dc.zero]
    simp -dsimp only [Vm.G, List.lookup, Nat.reduceAdd, Nat.reduceBEq, Int.reduceBNe, Int.reduceBEq, Nat.reduceLeDiff, q78]
    exact hq'
def elinesSpec : Vm.Spec := fun args h Q => ∃ (V : VId) (f : Fun) (year frm : Int) (l : List Ln), I64 frm ∧ (∀ x ∈ l, x.ok) ∧ l.length ≤ 1073741824 ∧ args = [ordAv V year frm, .sl 4 (l.map lnAv)] ∧ isView h V f ∧
  ∀ h', isView h' V (linesFrom f year frm l).1 → Same h h' [V.ic] → takeAns (linesFrom f year frm l) Q h'
attribute [local irreducible] takeOf
set_option maxHeartbeats 1000000 in
theorem does_elines : Does Tryz.prog 135 elinesSpec := by
  refine does_of_awpO 0 (good_cons does_take good_nil) Tryz.func135 rfl (by decide +kernel) (by decide +kernel) ?_
  rintro args h Q ⟨V, f, year, frm, l, hfr, hok, hl, rfl, hV, hq⟩
  refine ⟨by simp [Tryz.f135], ?_⟩
  rw [awpFuncO_some (by rfl)]
  unfold linesFrom at hq
  simp -dsimp only [Vm.G, List.lookup, Nat.reduceAdd, Nat.reduceBEq, Int.reduceBNe, Int.reduceBEq, Nat.reduceLeDiff, q135]
  have h1 := Bool.eq_false_or_eq_true (frm != 0)
  rcases h1 with c1 | c1
  · have d1 : frm ≠ 0 := by simpa using c1
    simp only [if_pos d1] at hq
    simp -dsimp only [Vm.G, List.lookup, Nat.reduceAdd, Nat.reduceBEq, Int.reduceBNe, Int.reduceBEq, Nat.reduceLeDiff, q135, c1]
    refine call_one (S := takeSpec) rfl _ GaL.rfl ⟨V, f, 1, year, frm, l, hfr, hok, hl, rfl, hV, fun h2 g1 g2 => ?_⟩
    have hq' := hq h2 g1 g2
    generalize takeOf f 1 year frm l = q at hq' ⊢
    rcases q with ⟨qf, qd, qe⟩
    refine ⟨fun he => ?_, fun he => ?_⟩
    · have hq2 := hq'.1 he
      simp -dsimp only [Vm.G, List.lookup, Nat.reduceAdd, Nat.reduceBEq, Int.reduceBNe, Int.reduceBEq, Nat.reduceLeDiff, q135]
      exact hq2
    · have hq2 := hq'.2 he
      simp -dsimp only [Vm.G, List.lookup, Nat.reduceAdd, Nat.reduceBEq, Int.reduceBNe, Int.reduceBEq, Nat.reduceLeDiff, q135]
      exact hq2
  · have d1 : ¬ frm ≠ 0 := by simpa using c1
    simp only [if_neg d1] at hq
    have hq' := (hq h hV (.refl _ _)).1 rfl
    clear hq
    simp -dsimp only [Vm.G, List.lookup, Nat.reduceAdd, Nat.reduceBEq, Int.reduceBNe, Int.reduceBEq, Nat.reduceLeDiff, q135, c1]
    refine awp_loop (fun m s h' => ∃ i : Nat, i + m = l.length ∧ h' = h ∧ s = mk [(6, .own true 62 4 ((ownL (l.take i)).map dlAv)), (22, .sl 4 (l.map lnAv)), (23, .v (.int .i64 l.length)), (24, .v (.int .i64 i))])
      l.length _ (le_mk _ ?_) ⟨0, by omega, rfl, rfl⟩ ?_
    · simp only [List.forall_mem_cons, List.not_mem_nil, false_imp_iff, implies_true, and_true]
      try simp -dsimp only [Vm.G, List.lookup, Nat.reduceAdd, Nat.reduceBEq, Int.reduceBNe, Int.reduceBEq, Nat.reduceLeDiff, q135]
      repeat' first | exact Fg.refl _ | exact Fg.nil _ _ _ (by decide) | refine And.intro ?_ ?_
    · rintro m s h' ⟨i, hi, rfl, rfl⟩
      simp -dsimp only [Vm.G, List.lookup, Nat.reduceAdd, Nat.reduceBEq, Int.reduceBNe, Int.reduceBEq, Nat.reduceLeDiff, q135]
      refine cond_intro (fun hcc => ?_) (fun hcc => ?_)
      · have hlt : i < l.length := by have := of_decide_eq_true hcc; omega
        have hw : IntKind.i64.wrap ((i : Int) + 1) = ((i + 1 : Nat) : Int) := by rw [wrap_i64 (by omega) (by omega)]; simp
        have est : ownL (l.take (i + 1)) = ownL (l.take i) ++ [⟨l[i].node, l[i].amt, 0, 0⟩] := by
          unfold ownL
          rw [List.take_succ_eq_append_getElem hlt, List.map_append]; rfl
        have hol : (ownL (l.take i)).length ≤ i := by unfold ownL; rw [List.length_map, List.length_take]; omega
        simp -dsimp only [Vm.G, List.lookup, Nat.reduceAdd, Nat.reduceBEq, Int.reduceBNe, Int.reduceBEq, Nat.reduceLeDiff, q135]
        refine idx_map lnAv l i hlt ?_
        generalize l[i] = x at est
        simp only [lnAv, lnCells]
        simp -dsimp only [Vm.G, List.lookup, Nat.reduceAdd, Nat.reduceBEq, Int.reduceBNe, Int.reduceBEq, Nat.reduceLeDiff, q135, AV.cells]
        refine bs_intro zr62 (by decide) (by decide) rfl rfl (by simp [solid, AV.cells]) ?_
        simp -dsimp only [Vm.G, List.lookup, Nat.reduceAdd, Nat.reduceBEq, Int.reduceBNe, Int.reduceBEq, Nat.reduceLeDiff, q135]
        refine app_sl Tryz.underlying55 (by simp [AV.cells]) (by simp only [List.length_map, List.length_cons, List.length_nil]; omega) ?_
        simp -dsimp only [Vm.G, List.lookup, Nat.reduceAdd, Nat.reduceBEq, Int.reduceBNe, Int.reduceBEq, Nat.reduceLeDiff, q135]
        refine kept_intro ⟨l.length - (i + 1), by omega, _, le_mk [(6, .own true 62 4 ((ownL (l.take (i + 1))).map dlAv)), (22, .sl 4 (l.map lnAv)), (23, .v (.int .i64 l.length)), (24, .v (.int .i64 (i + 1 : Nat)))] ?_, i + 1, by omega, rfl, rfl⟩
        simp only [List.forall_mem_cons, List.not_mem_nil, false_imp_iff, implies_true, and_true, hw, est, List.map_append, List.map_cons, List.map_nil, dlAv, dlCells]
        try simp -dsimp only [Vm.G, List.lookup, Nat.reduceAdd, Nat.reduceBEq, Int.reduceBNe, Int.reduceBEq, Nat.reduceLeDiff, q135, hw, est, List.map_append, List.map_cons, List.map_nil, dlAv, dlCells]
        repeat' first | exact Fg.refl _ | exact Fg.nil _ _ _ (by decide) | refine And.intro ?_ ?_
      · have hge : ¬ i < l.length := by have := of_decide_eq_false hcc; omega
        simp -dsimp only [Vm.G, List.lookup, Nat.reduceAdd, Nat.reduceBEq, Int.reduceBNe, Int.reduceBEq, Nat.reduceLeDiff, q135]
        rw [List.take_of_length_le (by omega)]
        exact hq'
def echargeSpec : Vm.Spec := fun args h Q => ∃ (V : VId) (f : Fun) (year frm : Int) (l : List Dl), l.length ≤ 1073741824 ∧ args = [ordAv V year frm, .sl 4 (l.map dlAv)] ∧ isView h V f ∧
  ∀ h', isView h' V (chargeG (mkE frm) year l f false).1 → Same h h' [V.ic] → Q (.tup [.v (.bool (chargeG (mkE frm) year l f false).2.1), .v (.int .i64 (chargeG (mkE frm) year l f false).2.2)]) h'
attribute [local irreducible] chargeOf chargeG docsPut
set_option maxHeartbeats 1000000 in
theorem does_echarge : Does Tryz.prog 136 echargeSpec := by
  refine does_of_awp (good_cons does_charge good_nil) Tryz.func136 rfl (by decide +kernel) (by decide +kernel) ?_
  rintro args h Q ⟨V, f, year, frm, l, hl, rfl, hV, hq⟩
  refine ⟨by simp [Tryz.f136], ?_⟩
  rw [awpFunc_some (by rfl)]
  simp -dsimp only [Vm.G, List.lookup, Nat.reduceAdd, Nat.reduceBEq, Int.reduceBNe, Int.reduceBEq, Nat.reduceLeDiff, q136]
  refine awp_loop (fun m s h' => ∃ (i : Nat) (g : Fun) (w : Bool), i + m = l.length ∧ isView h' V g ∧ Same h h' [V.ic] ∧ chargeG (mkE frm) year (l.drop i) g w = chargeG (mkE frm) year l f false ∧ s = mk [(2, .box [.ptr V.iv 0, .v (.int .i64 year), .v (.int .i64 frm)]), (6, .v (.bool w)), (12, .sl 4 (l.map dlAv)), (13, .v (.int .i64 l.length)), (14, .v (.int .i64 (i : Nat)))])
    l.length _ (le_mk _ ?_) ⟨0, f, false, by omega, hV, .refl _ _, rfl, rfl⟩ ?_
  · simp only [List.forall_mem_cons, List.not_mem_nil, false_imp_iff, implies_true, and_true]
    try simp -dsimp only [Vm.G, List.lookup, Nat.reduceAdd, Nat.reduceBEq, Int.reduceBNe, Int.reduceBEq, Nat.reduceLeDiff, q136]
    repeat' first | exact Fg.refl _ | exact Fg.nil _ _ _ (by decide) | refine And.intro ?_ ?_
  · clear hV
    rintro m s h' ⟨i, g, w, hi, hV, hsm, hp, rfl⟩
    simp -dsimp only [Vm.G, List.lookup, Nat.reduceAdd, Nat.reduceBEq, Int.reduceBNe, Int.reduceBEq, Nat.reduceLeDiff, q136]
    refine cond_intro (fun hcc => ?_) (fun hcc => ?_)
    · have hlt : i < l.length := by have := of_decide_eq_true hcc; omega
      have hw : IntKind.i64.wrap ((i : Int) + 1) = ((i + 1 : Nat) : Int) := by rw [wrap_i64 (by omega) (by omega)]; simp
      rw [List.drop_eq_getElem_cons hlt] at hp
      simp -dsimp only [Vm.G, List.lookup, Nat.reduceAdd, Nat.reduceBEq, Int.reduceBNe, Int.reduceBEq, Nat.reduceLeDiff, q136]
      refine idx_map dlAv l i hlt ?_
      generalize l[i] = x at hp
      simp only [dlAv, dlCells]
      simp -dsimp only [Vm.G, List.lookup, Nat.reduceAdd, Nat.reduceBEq, Int.reduceBNe, Int.reduceBEq, Nat.reduceLeDiff, q136, AV.cells]
      have h1 := Bool.eq_false_or_eq_true (frm != 0)
      rcases h1 with c1 | c1
      · have d1 : frm ≠ 0 := by simpa using c1
        simp -dsimp only [Vm.G, List.lookup, Nat.reduceAdd, Nat.reduceBEq, Int.reduceBNe, Int.reduceBEq, Nat.reduceLeDiff, q136, c1]
        refine call_one (S := chargeSpec) rfl _ GaL.rfl ⟨V, g, year, x.node, mkE frm x, by simp only [mkE, if_pos d1], hV, fun h2 g1 g2 => ?_⟩
        rw [chargeG_cons] at hp
        generalize chargeOf g year x.node (mkE frm x) = q at hp g1 ⊢
        rcases q with ⟨qf, qw, qe⟩
        simp only at hp g1 ⊢
        simp -dsimp only [Vm.G, List.lookup, Nat.reduceAdd, Nat.reduceBEq, Int.reduceBNe, Int.reduceBEq, Nat.reduceLeDiff, q136]
        have h3 := Bool.eq_false_or_eq_true (qe != 0)
        rcases h3 with c3 | c3
        · have d3 : qe ≠ 0 := by simpa using c3
          rw [if_pos d3] at hp
          rw [← hp] at hq
          simp -dsimp only [Vm.G, List.lookup, Nat.reduceAdd, Nat.reduceBEq, Int.reduceBNe, Int.reduceBEq, Nat.reduceLeDiff, q136, c3]
          exact hq h2 g1 (hsm.trans g2)
        · have d3 : ¬ qe ≠ 0 := by simpa using c3
          rw [if_neg d3] at hp
          simp -dsimp only [Vm.G, List.lookup, Nat.reduceAdd, Nat.reduceBEq, Int.reduceBNe, Int.reduceBEq, Nat.reduceLeDiff, q136, c3]
          cases w
          · simp -dsimp only [Vm.G, List.lookup, Nat.reduceAdd, Nat.reduceBEq, Int.reduceBNe, Int.reduceBEq, Nat.reduceLeDiff, q136]
            refine kept_intro ⟨l.length - (i + 1), by omega, _, le_mk [(2, .box [.ptr V.iv 0, .v (.int .i64 year), .v (.int .i64 frm)]), (6, .v (.bool qw)), (12, .sl 4 (l.map dlAv)), (13, .v (.int .i64 l.length)), (14, .v (.int .i64 (i + 1 : Nat)))] ?_, i + 1, qf, qw, by omega, g1, hsm.trans g2, by simpa using hp, rfl⟩
            simp only [List.forall_mem_cons, List.not_mem_nil, false_imp_iff, implies_true, and_true, hw]
            try simp -dsimp only [Vm.G, List.lookup, Nat.reduceAdd, Nat.reduceBEq, Int.reduceBNe, Int.reduceBEq, Nat.reduceLeDiff, q136, hw]
            repeat' first | exact Fg.refl _ | exact Fg.nil _ _ _ (by decide) | refine And.intro ?_ ?_
          · simp -dsimp only [Vm.G, List.lookup, Nat.reduceAdd, Nat.reduceBEq, Int.reduceBNe, Int.reduceBEq, Nat.reduceLeDiff, q136]
            refine kept_intro ⟨l.length - (i + 1), by omega, _, le_mk [(2, .box [.ptr V.iv 0, .v (.int .i64 year), .v (.int .i64 frm)]), (6, .v (.bool true)), (12, .sl 4 (l.map dlAv)), (13, .v (.int .i64 l.length)), (14, .v (.int .i64 (i + 1 : Nat)))] ?_, i + 1, qf, true, by omega, g1, hsm.trans g2, by simpa using hp, rfl⟩
            simp only [List.forall_mem_cons, List.not_mem_nil, false_imp_iff, implies_true, and_true, hw]
            try simp -dsimp only [Vm.G, List.lookup, Nat.reduceAdd, Nat.reduceBEq, Int.reduceBNe, Int.reduceBEq, Nat.reduceLeDiff, q136, hw]
            repeat' first | exact Fg.refl _ | exact Fg.nil _ _ _ (by decide) | refine And.intro ?_ ?_
      · have d1 : ¬ frm ≠ 0 := by simpa using c1
        simp -dsimp only [Vm.G, List.lookup, Nat.reduceAdd, Nat.reduceBEq, Int.reduceBNe, Int.reduceBEq, Nat.reduceLeDiff, q136, c1]
        refine call_one (S := chargeSpec) rfl _ GaL.rfl ⟨V, g, year, x.node, mkE frm x, by simp only [mkE, if_neg d1], hV, fun h2 g1 g2 => ?_⟩
        rw [chargeG_cons] at hp
        generalize chargeOf g year x.node (mkE frm x) = q at hp g1 ⊢
        rcases q with ⟨qf, qw, qe⟩
        simp only at hp g1 ⊢
        simp -dsimp only [Vm.G, List.lookup, Nat.reduceAdd, Nat.reduceBEq, Int.reduceBNe, Int.reduceBEq, Nat.reduceLeDiff, q136]
        have h3 := Bool.eq_false_or_eq_true (qe != 0)
        rcases h3 with c3 | c3
        · have d3 : qe ≠ 0 := by simpa using c3
          rw [if_pos d3] at hp
          rw [← hp] at hq
          simp -dsimp only [Vm.G, List.lookup, Nat.reduceAdd, Nat.reduceBEq, Int.reduceBNe, Int.reduceBEq, Nat.reduceLeDiff, q136, c3]
          exact hq h2 g1 (hsm.trans g2)
        · have d3 : ¬ qe ≠ 0 := by simpa using c3
          rw [if_neg d3] at hp
          simp -dsimp only [Vm.G, List.lookup, Nat.reduceAdd, Nat.reduceBEq, Int.reduceBNe, Int.reduceBEq, Nat.reduceLeDiff, q136, c3]
          cases w
          · simp -dsimp only [Vm.G, List.lookup, Nat.reduceAdd, Nat.reduceBEq, Int.reduceBNe, Int.reduceBEq, Nat.reduceLeDiff, q136]
            refine kept_intro ⟨l.length - (i + 1), by omega, _, le_mk [(2, .box [.ptr V.iv 0, .v (.int .i64 year), .v (.int .i64 frm)]), (6, .v (.bool qw)), (12, .sl 4 (l.map dlAv)), (13, .v (.int .i64 l.length)), (14, .v (.int .i64 (i + 1 : Nat)))] ?_, i + 1, qf, qw, by omega, g1, hsm.trans g2, by simpa using hp, rfl⟩
            simp only [List.forall_mem_cons, List.not_mem_nil, false_imp_iff, implies_true, and_true, hw]
            try simp -dsimp only [Vm.G, List.lookup, Nat.reduceAdd, Nat.reduceBEq, Int.reduceBNe, Int.reduceBEq, Nat.reduceLeDiff, q136, hw]
            repeat' first | exact Fg.refl _ | exact Fg.nil _ _ _ (by decide) | refine And.intro ?_ ?_
          · simp -dsimp only [Vm.G, List.lookup, Nat.reduceAdd, Nat.reduceBEq, Int.reduceBNe, Int.reduceBEq, Nat.reduceLeDiff, q136]
            refine kept_intro ⟨l.length - (i + 1), by omega, _, le_mk [(2, .box [.ptr V.iv 0, .v (.int .i64 year), .v (.int .i64 frm)]), (6, .v (.bool true)), (12, .sl 4 (l.map dlAv)), (13, .v (.int .i64 l.length)), (14, .v (.int .i64 (i + 1 : Nat)))] ?_, i + 1, qf, true, by omega, g1, hsm.trans g2, by simpa using hp, rfl⟩
            simp only [List.forall_mem_cons, List.not_mem_nil, false_imp_iff, implies_true, and_true, hw]
            try simp -dsimp only [Vm.G, List.lookup, Nat.reduceAdd, Nat.reduceBEq, Int.reduceBNe, Int.reduceBEq, Nat.reduceLeDiff, q136, hw]
            repeat' first | exact Fg.refl _ | exact Fg.nil _ _ _ (by decide) | refine And.intro ?_ ?_
    · have hge : ¬ i < l.length := by have := of_decide_eq_false hcc; omega
      rw [List.drop_of_length_le (by omega)] at hp
      have hp : (g, w, (0 : Int)) = chargeG (mkE frm) year l f false := by rw [← hp]; simp only [chargeG]
      rw [← hp] at hq
      simp -dsimp only [Vm.G, List.lookup, Nat.reduceAdd, Nat.reduceBEq, Int.reduceBNe, Int.reduceBEq, Nat.reduceLeDiff, q136]
      exact hq h' hV hsm
def encNewSpec : Vm.Spec := fun args h Q => ∃ (V : VId) (f : Fun) (year frm : Int) (l : List Ln), I64 year ∧ I64 frm ∧ l.length ≤ 1073741824 ∧ (∀ x ∈ l, x.ok) ∧ args = [.ptr V.iv 0, .v (.int .i64 year), .v (.int .i64 frm), .sl 4 (l.map lnAv)] ∧ isView h V f ∧
  ∀ h', isView h' V (encNew f year frm l).1 → Same h h' [V.ic] → Q (.tup [.v (.int .i64 (encNew f year frm l).2.1), .v (.bool (encNew f year frm l).2.2.1), .v (.int .i64 (encNew f year frm l).2.2.2)]) h'
attribute [local irreducible] linesFrom
set_option maxHeartbeats 2000000 in
theorem does_encNew : Does Tryz.prog 59 encNewSpec := by
  refine does_of_awp (good_cons does_yCheck (good_cons does_preCheck (good_cons does_elines (good_cons does_echarge (good_cons does_docsPut good_nil))))) Tryz.func59 rfl (by decide +kernel) (by decide +kernel) ?_
  rintro args h Q ⟨V, f, year, frm, l, hy, hfr, hl, hok, rfl, hV, hq⟩
  refine ⟨by simp [Tryz.f59], ?_⟩
  rw [awpFunc_some (by rfl)]
  unfold encNew at hq
  simp -dsimp only [Vm.G, List.lookup, Nat.reduceAdd, Nat.reduceBEq, Int.reduceBNe, Int.reduceBEq, Nat.reduceLeDiff, q59]
  refine call_one (S := yCheckSpec) rfl _ GaL.rfl ⟨V, f, year, rfl, hV, ?_⟩
  generalize checkY f year = e at hq ⊢
  simp -dsimp only [Vm.G, List.lookup, Nat.reduceAdd, Nat.reduceBEq, Int.reduceBNe, Int.reduceBEq, Nat.reduceLeDiff, q59]
  have h1 := Bool.eq_false_or_eq_true (e != 0)
  rcases h1 with c1 | c1
  · have d1 : e ≠ 0 := by simpa using c1
    simp only [if_pos d1] at hq
    simp -dsimp only [Vm.G, List.lookup, Nat.reduceAdd, Nat.reduceBEq, Int.reduceBNe, Int.reduceBEq, Nat.reduceLeDiff, q59, c1]
    exact hq h hV (.refl _ _)
  · have d1 : ¬ e ≠ 0 := by simpa using c1
    simp only [if_neg d1] at hq
    simp -dsimp only [Vm.G, List.lookup, Nat.reduceAdd, Nat.reduceBEq, Int.reduceBNe, Int.reduceBEq, Nat.reduceLeDiff, q59, c1]
    refine call_one (S := preCheckSpec) rfl _ GaL.rfl ⟨l, by omega, rfl, ?_⟩
    generalize preCheck l = e2 at hq ⊢
    simp -dsimp only [Vm.G, List.lookup, Nat.reduceAdd, Nat.reduceBEq, Int.reduceBNe, Int.reduceBEq, Nat.reduceLeDiff, q59]
    have h2 := Bool.eq_false_or_eq_true (e2 != 0)
    rcases h2 with c2 | c2
    · have d2 : e2 ≠ 0 := by simpa using c2
      simp only [if_pos d2] at hq
      simp -dsimp only [Vm.G, List.lookup, Nat.reduceAdd, Nat.reduceBEq, Int.reduceBNe, Int.reduceBEq, Nat.reduceLeDiff, q59, c2]
      exact hq h hV (.refl _ _)
    · have d2 : ¬ e2 ≠ 0 := by simpa using c2
      simp only [if_neg d2] at hq
      have hln := linesFrom_n f year frm l
      have hlo := linesFrom_ok f year frm l hok
      simp -dsimp only [Vm.G, List.lookup, Nat.reduceAdd, Nat.reduceBEq, Int.reduceBNe, Int.reduceBEq, Nat.reduceLeDiff, q59, c2]
      refine call_one (S := elinesSpec) rfl _ GaL.rfl ⟨V, f, year, frm, l, hfr, hok, hl, rfl, hV, fun h1 g1 g2 => ?_⟩
      generalize linesFrom f year frm l = q at hq g1 hln hlo ⊢
      rcases q with ⟨qf, qo, qe⟩
      simp only at hq g1 hln hlo
      refine ⟨fun he => ?_, fun he => ?_⟩
      · have he : qe = 0 := he
        subst he
        simp only [ne_eq, not_true_eq_false, if_false] at hq
        simp only
        simp -dsimp only [Vm.G, List.lookup, Nat.reduceAdd, Nat.reduceBEq, Int.reduceBNe, Int.reduceBEq, Nat.reduceLeDiff, q59, bne_self_eq_false]
        refine call_one (S := echargeSpec) rfl _ GaL.rfl ⟨V, qf, year, frm, qo, by omega, rfl, g1, fun h2 k1 k2 => ?_⟩
        generalize chargeG (mkE frm) year qo qf false = r at hq k1 ⊢
        rcases r with ⟨rf, rw1, re⟩
        simp only at hq k1 ⊢
        simp -dsimp only [Vm.G, List.lookup, Nat.reduceAdd, Nat.reduceBEq, Int.reduceBNe, Int.reduceBEq, Nat.reduceLeDiff, q59]
        have h3 := Bool.eq_false_or_eq_true (re != 0)
        rcases h3 with c3 | c3
        · have d3 : re ≠ 0 := by simpa using c3
          have d3' : ¬ re = 0 := d3
          simp only [if_neg d3', ite_not, not_false_eq_true, if_true] at hq
          simp -dsimp only [Vm.G, List.lookup, Nat.reduceAdd, Nat.reduceBEq, Int.reduceBNe, Int.reduceBEq, Nat.reduceLeDiff, q59, c3]
          exact hq h2 k1 (g2.trans k2)
        · have d3 : re = 0 := by simpa using c3
          simp only [d3, if_true, ite_not, not_true_eq_false, if_false] at hq
          have z0 : I64 0 := by unfold I64; omega
          have z2 : I64 2 := by unfold I64; omega
          simp -dsimp only [Vm.G, List.lookup, Nat.reduceAdd, Nat.reduceBEq, Int.reduceBNe, Int.reduceBEq, Nat.reduceLeDiff, q59, c3]
          refine call_one (S := docsPutSpec) rfl _ GaL.rfl ⟨V, rf, ⟨0, 2, year, frm, 0⟩, qo, ⟨z0, z2, hy, hfr, z0⟩, hlo, rfl, k1, fun h3 m1 m2 => ?_⟩
          generalize docsPut rf ⟨0, 2, year, frm, 0⟩ qo = t at hq m1 ⊢
          rcases t with ⟨tf, ti, te⟩
          simp only at hq m1 ⊢
          have hq' := hq h3 m1 ((g2.trans k2).trans m2)
          cases rw1
          · simp -dsimp only [Vm.G, List.lookup, Nat.reduceAdd, Nat.reduceBEq, Int.reduceBNe, Int.reduceBEq, Nat.reduceLeDiff, q59]
            exact hq'
          · simp -dsimp only [Vm.G, List.lookup, Nat.reduceAdd, Nat.reduceBEq, Int.reduceBNe, Int.reduceBEq, Nat.reduceLeDiff, q59]
            exact hq'
      · have he : qe ≠ 0 := he
        simp only [if_pos he] at hq
        have c4 : (qe != 0) = true := by simpa using he
        simp only
        simp -dsimp only [Vm.G, List.lookup, Nat.reduceAdd, Nat.reduceBEq, Int.reduceBNe, Int.reduceBEq, Nat.reduceLeDiff, q59, c4]
        exact hq h1 g1 g2
end Go.Proofs.Lx
/- A view committed, or forgotten: what lies beneath it. -/
set_option linter.unusedSimpArgs false
set_option linter.unusedVariables false
namespace Go.Proofs.Lx
open Go.Vm
attribute [local irreducible] awpArr awpBin awpMake awpAppend awpCvX awpStrOf awpBinX awpSlice awpBS awpStore awpAlloc awpCopy awpIndex awpDraw awpIdxX awpFa awpField awpLookup awpUpdate awpDelete awpClear awpRange awpNext awpEntry awpBuild awpClearS awpIdxL awpTree appB awpIdxO eltA treeA
def memOf (mem : List Ent) (k : List UInt8) : Option (List UInt8) := (mget (strK k) mem).map fun e => bytesOf e.val
/-- What lies beneath a view in memory; beneath the reference's. -/
def memV (h : Heap) (V : VId) (g : Fun) : Prop := ∃ mem clk, h[V.im]? = some (.map mem clk) ∧ (∀ k, g k = memOf mem k) ∧ mem.length ≤ g.n
def wasR (h : Heap) (R : RId) (g : Fun) : Prop := ∃ lw : List KV, h[R.iw]? = some (tabObj lw) ∧ TabIs g lw ∧ lw.length ≤ g.n ∧ ∀ p ∈ lw, p.1.length ≤ 32 ∧ p.2.length ≤ 120
def BothW (h : Heap) (V : VId) (R : RId) (f g : Fun) : Prop := Both h V R f ∧ memV h V g ∧ wasR h R g
theorem memV.same {h h' : Heap} {V : VId} {g : Fun} {fp : List Nat} (hm : memV h V g) (hs : Same h h' fp) (hd : V.im ∉ fp) : memV h' V g := by
  obtain ⟨mem, clk, h1, h2⟩ := hm
  exact ⟨mem, clk, hs.get h1 hd, h2⟩
theorem wasR.same {h h' : Heap} {R : RId} {g : Fun} {fp : List Nat} (hw : wasR h R g) (hs : Same h h' fp) (hd : R.iw ∉ fp) : wasR h' R g := by
  obtain ⟨lw, h1, h2⟩ := hw
  exact ⟨lw, hs.get h1 hd, h2⟩
theorem isView.ne {h : Heap} {V : VId} {f : Fun} (hV : isView h V f) : V.iv ≠ V.ic ∧ V.iv ≠ V.im ∧ V.ic ≠ V.im := by
  obtain ⟨_, _, _, _, _, _, _, h4, _⟩ := hV
  exact h4
theorem isRef.ne {h : Heap} {R : RId} {f : Fun} (hR : isRef h R f) : R.iw ≠ R.inn ∧ R.iw ≠ R.it := by
  obtain ⟨_, _, _, _, _, _, _, h5, _⟩ := hR
  exact h5.2.2.2
theorem BothW.step {h h' h2 : Heap} {V : VId} {R : RId} {f f' g : Fun} (hB : BothW h V R f g) (hV : isView h' V f') (hs : Same h h' [V.ic]) (hR : isRef h2 R f') (hs2 : Same h' h2 (rFoot R)) : BothW h2 V R f' g := by
  obtain ⟨hB, hm, hw⟩ := hB
  refine ⟨hB.ref hV hR hs2, (hm.same hs ?_).same hs2 ?_, (hw.same hs ?_).same hs2 ?_⟩
  · have := hB.1.ne.2.2
    simp [Ne.symm this]
  · have := hB.2.2 V.im (by simp)
    simp [rFoot] at this ⊢
    exact ⟨this.2.2.1, this.2.2.2⟩
  · have := hB.2.2 V.ic (by simp)
    simp at this ⊢
    exact fun e => this.2.1 e.symm
  · have := hB.2.1.ne
    simp [rFoot]
    exact this
theorem BothW.quiet {h h' : Heap} {V : VId} {R : RId} {f g : Fun} (hB : BothW h V R f g) (hV : isView h' V f) (hs : Same h h' []) : BothW h' V R f g :=
  ⟨hB.1.quiet hV hs, hB.2.1.same hs (by simp), hB.2.2.same hs (by simp)⟩
theorem Both.quietB {h h' : Heap} {V : VId} {R : RId} {f g : Fun} (hB : BothW h V R f g) (hB2 : Both h' V R f) (hs : Same h h' []) : BothW h' V R f g :=
  ⟨hB2, hB.2.1.same hs (by simp), hB.2.2.same hs (by simp)⟩
theorem mdel_sub (k : Value) : ∀ es : List Ent, (mdel k es).Sublist es
  | [] => .slnil
  | e :: es => by
    unfold mdel
    split
    · exact List.sublist_cons_self ..
    · exact (mdel_sub k es).cons_cons e
theorem mget_cons (k : List UInt8) (e : Ent) (es : List Ent) {a : List UInt8} (he : e.key = strK a) : mget (strK k) (e :: es) = if k = a then some e else mget (strK k) es := by
  unfold mget
  rw [List.find?_cons, he, keyEq_str]
  by_cases h : k = a
  · rw [if_pos h, h]; simp
  · have : (k == a) = false := by simpa using h
    rw [if_neg h, this]
theorem mget_mdel (q k : List UInt8) : ∀ {es : List Ent}, (∀ e ∈ es, ∃ k, e.key = strK k) → (es.map kOf).Nodup → mget (strK k) (mdel (strK q) es) = if k = q then none else mget (strK k) es
  | [], _, _ => by simp [mdel, mget]
  | e :: es, hk, hn => by
    obtain ⟨a, ha⟩ := hk e (List.mem_cons_self ..)
    have hk' : ∀ e ∈ es, ∃ k, e.key = strK k := fun e he => hk e (List.mem_cons_of_mem _ he)
    rw [List.map_cons, List.nodup_cons] at hn
    rw [kOf_eq ha] at hn
    unfold mdel
    rw [ha, keyEq_str]
    by_cases hq : q = a
    · subst hq
      simp only [beq_self_eq_true, if_true]
      rw [mget_cons k e es ha]
      by_cases hkq : k = q
      · rw [if_pos hkq, hkq]
        cases hg : mget (strK q) es with
        | none => rfl
        | some x => exact absurd ((mget_some hk' hn.2).1 (by rw [hg]; rfl)) hn.1
      · rw [if_neg hkq, if_neg hkq]
    · have h2 : (q == a) = false := by simpa using hq
      simp only [h2, Bool.false_eq_true, if_false]
      rw [mget_cons k e _ ha, mget_cons k e es ha, mget_mdel q k hk' hn.2]
      by_cases hka : k = a
      · have : ¬ k = q := fun e => hq (e ▸ hka)
        rw [if_pos hka, if_neg this, if_pos hka]
      · rw [if_neg hka, if_neg hka]
theorem Born.del {q : Value} {c : Nat} {es : List Ent} (h : Born es c) : Born (mdel q es) c :=
  ⟨⟨h.1.1.sublist ((mdel_sub q es).map _), h.1.2.sublist ((mdel_sub q es).map _)⟩, fun e he => h.2 e ((mdel_sub q es).mem he)⟩
/-- Changes 'done' came about over 'mem0'. -/
structure Kept (mem0 done mem : List Ent) (clk : Nat) : Prop where
  wf : ∀ e ∈ mem, WfM e
  born : Born mem clk
  len : mem.length ≤ mem0.length + done.length
  short : ∀ e ∈ mem, (kOf e).length ≤ 32
  now : ∀ k, memOf mem k = nowOf done mem0 k
theorem nowOf_snoc {done mem0 : List Ent} {e : Ent} {q : List UInt8} (hq : e.key = strK q) (hk : ∀ e ∈ done, ∃ k, e.key = strK k) (hn : ((done ++ [e]).map kOf).Nodup) (k : List UInt8) :
    nowOf (done ++ [e]) mem0 k = if k = q then shapeOf e.val else nowOf done mem0 k := by
  have h1 : mget (strK k) (done ++ [e]) = (mget (strK k) done).or (mget (strK k) [e]) := by unfold mget; rw [List.find?_append]
  have h2 := mget_cons k e [] hq
  rw [List.map_append, List.nodup_append] at hn
  have hqd : q ∉ done.map kOf := fun hm => hn.2.2 q hm q (by simp [kOf_eq hq]) rfl
  unfold nowOf
  rw [h1, h2]
  by_cases hkq : k = q
  · subst hkq
    have : mget (strK k) done = none := by
      cases hg : mget (strK k) done with
      | none => rfl
      | some x => exact absurd ((mget_some hk hn.1).1 (by rw [hg]; rfl)) hqd
    rw [this]; simp
  · rw [if_neg hkq, if_neg hkq]
    have : mget (strK k) ([] : List Ent) = none := rfl
    rw [this, Option.or_none]
theorem Kept.del {mem0 done mem : List Ent} {clk : Nat} (h : Kept mem0 done mem clk) {e : Ent} {q : List UInt8} (hq : e.key = strK q) (hs : shapeOf e.val = none) (hk : ∀ e ∈ done, ∃ k, e.key = strK k) (hn : ((done ++ [e]).map kOf).Nodup) :
    Kept mem0 (done ++ [e]) (mdel (strK q) mem) clk := by
  refine ⟨fun x hx => h.wf x ((mdel_sub _ _).mem hx), h.born.del, ?_, fun x hx => h.short x ((mdel_sub _ _).mem hx), fun k => ?_⟩
  · have := (mdel_sub (strK q) mem).length_le
    have := h.len
    rw [List.length_append]; omega
  · rw [nowOf_snoc hq hk hn k, hs, ← h.now k]
    unfold memOf
    rw [mget_mdel q k (fun e he => (h.wf e he).1) h.born.1.2]
    split <;> rfl
theorem Kept.put {mem0 done mem : List Ent} {clk : Nat} (h : Kept mem0 done mem clk) {e : Ent} {q l : List UInt8} {x : AV} (hq : e.key = strK q) (hs : shapeOf e.val = some l) (hx : isB x l) (hl : l.length ≤ 120) (hq32 : q.length ≤ 32) (hk : ∀ e ∈ done, ∃ k, e.key = strK k) (hn : ((done ++ [e]).map kOf).Nodup) :
    Kept mem0 (done ++ [e]) (mput (strK q) x clk mem) (mclk (strK q) mem clk) := by
  have hkm : ∀ e ∈ mem, ∃ k, e.key = strK k := fun e he => (h.wf e he).1
  refine ⟨fun y hy => ?_, h.born.put hkm, ?_, fun y hy => ?_, fun k => ?_⟩
  · rcases mput_mem hy with hy | ⟨h1, h2⟩
    · exact h.wf y hy
    · exact ⟨⟨q, h1⟩, l, by rw [h2]; exact hx, hl⟩
  · have := mput_length (k := strK q) (v := x) (c := clk) mem
    have := h.len
    rw [List.length_append]
    simp only [List.length_cons, List.length_nil]
    omega
  · rcases mput_mem hy with hy | ⟨h1, h2⟩
    · exact h.short y hy
    · rw [kOf_eq h1]; exact hq32
  · rw [nowOf_snoc hq hk hn k, hs, ← h.now k]
    unfold memOf
    have hg := mget_mput (v := x) (c := clk) q k hkm
    have e1 : ∀ o : Option Ent, (o.map fun e => bytesOf e.val) = (o.map Ent.val).map bytesOf := fun o => by cases o <;> rfl
    rw [e1, hg]
    by_cases hkq : k = q
    · rw [if_pos hkq, if_pos hkq, Option.map_some, bytesOf_isB hx]
    · rw [if_neg hkq, if_neg hkq, ← e1]
theorem nowOf_perm {a b mem : List Ent} (h : a.Perm b) (hk : ∀ e ∈ a, ∃ k, e.key = strK k) (hn : (a.map kOf).Nodup) (k : List UInt8) : nowOf a mem k = nowOf b mem k := by
  have hk2 : ∀ e ∈ b, ∃ k, e.key = strK k := fun e he => hk e (h.mem_iff.2 he)
  have hn2 : (b.map kOf).Nodup := ((h.map kOf).nodup_iff).1 hn
  have : mget (strK k) a = mget (strK k) b := by
    cases hg : mget (strK k) b with
    | some e =>
      obtain ⟨h1, h2⟩ := (mget_iff hk2 hn2).1 hg
      exact (mget_iff hk hn).2 ⟨h.mem_iff.2 h1, h2⟩
    | none =>
      cases hg2 : mget (strK k) a with
      | none => rfl
      | some e =>
        obtain ⟨h1, h2⟩ := (mget_iff hk hn).1 hg2
        have := (mget_iff hk2 hn2).2 ⟨h.mem_iff.1 h1, h2⟩
        rw [hg] at this; cases this
  unfold nowOf
  rw [this]
end Go.Proofs.Lx
/- Strings and numbers sorted, in place: by the kit's laws on Go's own sort. -/
set_option linter.unusedSimpArgs false
set_option linter.unusedVariables false
namespace Go.Proofs.Lx
open Go.Vm Go.RowKit
/-- The world behind a sort of one-cell elements. -/
theorem putRow_heap {α : Type} [Inhabited α] (enc : α → Value) (w : World) (b n : Nat) (d : Array α) (os : Array Obj) :
    (∀ k, k < w.heap.size → k ≠ b → (Sort.grow (Sort.putRow enc (Sort.ahead w n) b 0 d) os).heap[k]? = w.heap[k]?) ∧ w.heap.size ≤ (Sort.grow (Sort.putRow enc (Sort.ahead w n) b 0 d) os).heap.size ∧
      ∀ vs e fr, w.heap[b]? = some (.cells vs e fr) → (Sort.grow (Sort.putRow enc (Sort.ahead w n) b 0 d) os).heap[b]? = some (.cells (Sort.putCells enc 0 d vs) e fr) := by
  have hs : (Sort.putRow enc (Sort.ahead w n) b 0 d).heap.size = w.heap.size := by simp [Sort.putRow, Sort.mapBlock, Sort.ahead]
  have hg : ∀ k, k < w.heap.size → (Sort.grow (Sort.putRow enc (Sort.ahead w n) b 0 d) os).heap[k]? = (w.heap.modify b (Sort.onCells (Sort.putCells enc 0 d)))[k]? := fun k hk => by
    show ((Sort.putRow enc (Sort.ahead w n) b 0 d).heap ++ os)[k]? = _
    rw [Array.getElem?_append_left (by rw [hs]; exact hk)]; rfl
  refine ⟨fun k hk hne => ?_, ?_, fun vs e fr hb => ?_⟩
  · rw [hg k hk, Array.getElem?_modify, if_neg (fun e => hne e.symm)]
  · show w.heap.size ≤ ((Sort.putRow enc (Sort.ahead w n) b 0 d).heap ++ os).size
    rw [Array.size_append, hs]; omega
  · rw [hg b (lt_of_heap hb), Array.getElem?_modify, if_pos rfl, hb]; rfl
def vAv {α : Type} (enc : α → Value) (x : α) : AV := .v (enc x)
theorem flat_v {α : Type} (enc : α → Value) (l : List α) : flat (l.map (vAv enc)) = l.map (vAv enc) := by
  unfold flat
  induction l with
  | nil => rfl
  | cons x r ih => rw [List.map_cons, List.flatMap_cons, ih]; rfl
def sortVSpec {α : Type} (enc : α → Value) (R : List α → Prop) : Vm.Spec := fun args h Q => ∃ (l : List α) (h0 : Heap) (c e : Nat), args = [.osl h0.length 0 l.length c] ∧ h = h0 ++ [.row e (c * 1) (flat (l.map (vAv enc)))] ∧ l.length < 4611686018427387904 ∧ l.length ≤ c ∧
  ∀ l' : List α, l'.Perm l → R l' → Q (.tup []) (h0 ++ [.row e (c * 1) (flat (l'.map (vAv enc)))])
theorem does_sortV {α : Type} [Inhabited α] {f : FuncId} {R : List α → Prop} (enc : α → Value) (hp : ∀ x, plain (enc x) = true) (h1 : ∀ x, (enc x).oneCell' = true) (hcall : Callable Tryz.prog f)
    (key : ∀ (blk cap : Nat) (l : List α) (w : World), Sort.Holds enc w blk 0 l.toArray → blk < w.heap.size → l.length < 4611686018427387904 →
      Calls Tryz.prog f #[.slice (some ⟨blk, 0, none⟩) l.length cap] w fun e w' => e = .returned (.tuple #[]) ∧ ∃ (n : Nat) (os : Array Obj) (l' : List α), (l'.Perm l ∧ R l') ∧ w' = Sort.grow (Sort.putRow enc (Sort.ahead w n) blk 0 l'.toArray) os) :
    Does Tryz.prog f (sortVSpec enc R) := by
  refine ⟨hcall, ?_⟩
  rintro args h Q ⟨l, h0, c, e, rfl, rfl, hln, hlc, hq⟩ w g vs hvs hrep hh hfr hlaid
  have hm : h0.length < g.n := by rw [← hh.n]; simp
  generalize hb : g.loc h0.length = b
  have hrow : RowE w g e (c * 1) (flat (l.map (vAv enc))) b := by
    have : ObjRep w g (.row e (c * 1) (flat (l.map (vAv enc)))) (g.loc h0.length) := hh.obj h0.length _ (heap_last _ _)
    rw [hb] at this; exact this
  have hblt : b < w.heap.size := by rw [← hb]; exact hh.lt _ hm
  have hv0 : vs.getD 0 undef = .slice (some ⟨b, 0, none⟩) l.length c := by
    have := hrep 0 _ rfl
    generalize vs.getD 0 undef = v at this
    cases this with | osl => rw [hb]
  have hvs2 : vs = #[.slice (some ⟨b, 0, none⟩) l.length c] := by
    have h2 : vs.size = 1 := hvs
    apply Array.ext
    · simpa using h2
    · intro i hi1 hi2
      have : i = 0 := by omega
      subst this
      simpa [Array.getD, h2] using hv0
  subst hvs2
  obtain ⟨cur, a1, a2, a3, a4, a5, a6⟩ := hrow
  have hfl : (flat (l.map (vAv enc))).length = l.length := by rw [flat_v, List.length_map]
  have hcur : ∀ j (hj : j < l.length), cur.getD j undef = enc l[j] := fun j hj => by
    have := a6 j (vAv enc l[j]) (by rw [flat_v, List.getElem?_map, List.getElem?_eq_getElem hj]; rfl)
    exact (rep_v this).1
  have hH : Sort.Holds enc w b 0 l.toArray := fun j hj => by
    have hj : j < l.length := by simpa using hj
    have hjc : j < cur.size := by omega
    rw [Nat.zero_add]
    refine ⟨?_, ?_⟩
    · rw [cell_of_row w b j cur e (0, 0) a1]
      have := hcur j hj
      have e2 : (l.toArray)[j]! = l[j] := by rw [getElem!_pos l.toArray j (by simpa using hj)]; simp
      rw [e2, ← this]
      simp [Array.getD, hjc]
    · simp [World.frozen?, a1]
  refine (key b c l w hH hblt hln).mono ?_
  rintro e' w' ⟨rfl, n, os, l', ⟨hperm, hR⟩, rfl⟩
  obtain ⟨q1, q2, q3⟩ := putRow_heap enc w b n l'.toArray os
  have hlen : l'.length = l.length := hperm.length_eq
  generalize hW : Sort.grow (Sort.putRow enc (Sort.ahead w n) b 0 l'.toArray) os = w' at q1 q2 q3
  have hos : w'.os = w.os ∧ w'.tape = w.tape ∧ w'.output = w.output := by rw [← hW]; exact ⟨rfl, rfl, rfl⟩
  have hk : Keeps w g w' g := ⟨fun _ => Nat.le_refl _, fun k j v hj hv => by
    have hkb : k ≠ b := fun e => by rw [e, a4] at hj; omega
    have hkl : k < w.heap.size := by
      rcases Nat.lt_or_ge k w.heap.size with h | h
      · exact h
      · rw [hfr k h] at hj; omega
    rw [World.cell?_of_block (a := ⟨k, j, none⟩) (q1 k hkl hkb)]; exact hv, Nat.le_refl _, fun _ _ => rfl⟩
  have hrow' : RowE w' g e (c * 1) (flat (l'.map (vAv enc))) b := by
    have hnew : ∀ j (hj : j < l'.length), (Sort.putCells enc 0 l'.toArray cur).getD j undef = enc l'[j] := fun j hj => by
      have hjc : j < cur.size := by omega
      have e2 : (l'.toArray)[j]! = l'[j] := by rw [getElem!_pos l'.toArray j (by simpa using hj)]; simp
      rw [← e2]
      simp only [Sort.putCells]
      simp [Array.getD, hjc, hj]
    refine ⟨_, q3 cur e (0, 0) a1, by simp [Sort.putCells, a2], by rw [flat_v, List.length_map]; omega, a4, fun j hj => ?_, fun j u hu => ?_⟩
    · rw [flat_v, List.length_map] at hj
      rw [hnew j hj]; exact h1 _
    · rw [flat_v, List.getElem?_map] at hu
      have hj : j < l'.length := by
        rcases Nat.lt_or_ge j l'.length with h | h
        · exact h
        · rw [List.getElem?_eq_none h] at hu; cases hu
      rw [List.getElem?_eq_getElem hj] at hu
      cases hu
      rw [hnew j hj]
      exact .v (hp _)
  refine ⟨.tup [], h0 ++ [.row e (c * 1) (flat (l'.map (vAv enc)))], g, .tuple #[], hq l' hperm hR, rfl, .tup rfl (fun j u hu => by simp at hu), ?_, ?_, Nat.le_refl _, fun _ _ => rfl, fun _ _ => rfl, fun i hi h1 => by omega, fun k hk' => hfr k (Nat.le_trans q2 hk')⟩
  · refine ⟨by rw [← hh.n]; simp, fun i hi => Nat.lt_of_lt_of_le (hh.lt i hi) q2, hh.inj, fun i o ho => ?_⟩
    rcases Nat.lt_or_ge i h0.length with hi | hi
    · rw [List.getElem?_append_left hi] at ho
      have hig : i < g.n := by omega
      have hne : g.loc i ≠ b := fun e => by
        have := hh.inj i h0.length hig hm (e.trans hb.symm)
        omega
      exact (hh.obj i o (by rw [List.getElem?_append_left hi]; exact ho)).keepAt hk ⟨q1 _ (hh.lt i hig) hne, rfl⟩
    · have hie : i = h0.length := by
        rcases Nat.lt_or_ge i (h0.length + 1) with h | h
        · omega
        · rw [List.getElem?_eq_none (by simp; omega)] at ho; cases ho
      subst hie
      rw [heap_last] at ho
      cases ho
      show RowE _ _ _ _ _ (g.loc h0.length)
      rw [hb]; exact hrow'
  · exact ⟨hos.1, hos.2.1, hos.2.2, q2, fun k hk' hno => q1 k hk' fun e => hno _ hm (hb.trans e.symm)⟩
def sortVNil : Vm.Spec := fun args h Q => args = [.v (.slice none 0 0)] ∧ Q (.tup []) h
theorem does_sortVNil {f : FuncId} (hcall : Callable Tryz.prog f) (key : ∀ w : World, Calls Tryz.prog f #[.slice none 0 0] w fun e w' => e = .returned (.tuple #[]) ∧ w' = w) : Does Tryz.prog f sortVNil := by
  refine ⟨hcall, ?_⟩
  rintro args h Q ⟨rfl, hq⟩ w g vs hvs hrep hh hfr hlaid
  have hv0 : vs.getD 0 undef = .slice none 0 0 := (rep_v (hrep 0 _ rfl)).1
  have hvs2 : vs = #[.slice none 0 0] := by
    have h2 : vs.size = 1 := hvs
    apply Array.ext
    · simpa using h2
    · intro i hi1 hi2
      have : i = 0 := by omega
      subst this
      simpa [Array.getD, h2] using hv0
  rw [hvs2]
  refine (key w).mono ?_
  rintro e' w' ⟨rfl, rfl⟩
  exact ⟨.tup [], h, g, .tuple #[], hq, rfl, .tup rfl (fun j u hu => by simp at hu), hh, ⟨rfl, rfl, rfl, Nat.le_refl _, fun _ _ _ => rfl⟩, Nat.le_refl _, fun _ _ => rfl, fun _ _ => rfl, fun i hi h1 => by omega, hfr⟩
theorem does_sortS : Does Tryz.prog 252 (orS (sortVSpec strK fun _ => True) sortVNil) :=
  have hc : Callable Tryz.prog 252 := ⟨Tryz.f252, Tryz.func252, by kernel_rfl, by decide +kernel⟩
  does_or (does_sortV strK (fun _ => rfl) (fun _ => rfl) hc fun blk cap l w hH hb hl => (Any.slices_Sort_string Tryz.sortStr blk 0 cap l w hH hb hl).mono fun e w' ⟨h1, n, os, h2⟩ => ⟨h1, n, os, _, ⟨List.mergeSort_perm .., trivial⟩, h2⟩)
    (does_sortVNil hc fun w => Any.slices_Sort_string_none Tryz.sortStr none 0 w)
end Go.Proofs.Lx
/- A view's changes; what is committed, what is forgotten: the walks. -/
set_option linter.unusedSimpArgs false
set_option linter.unusedVariables false
namespace Go.Proofs.Lx
open Go.Vm
attribute [local irreducible] awpArr awpBin awpMake awpAppend awpCvX awpStrOf awpBinX awpSlice awpBS awpStore awpAlloc awpCopy awpIndex awpDraw awpIdxX awpFa awpField awpLookup awpUpdate awpDelete awpClear awpRange awpNext awpEntry awpBuild awpClearS awpIdxL awpTree appB awpIdxO eltA treeA
def keysSpec : Vm.Spec := fun args h Q => ∃ (ic : Nat) (chg : List Ent) (clk : Nat), args = [.mp ic] ∧ h[ic]? = some (.map chg clk) ∧ (∀ e ∈ chg, WfC e) ∧ Born chg clk ∧ chg.length ≤ 1073741824 ∧ (∀ e ∈ chg, (kOf e).length ≤ 32) ∧
  ∀ l : List (List UInt8), l.length ≤ chg.length → (∀ k ∈ l, k.length ≤ 32) → Q (.own true 9 1 (l.map (vAv strK))) h
set_option maxRecDepth 20000 in
set_option maxHeartbeats 1000000 in
theorem does_keys : Does Tryz.prog 219 keysSpec := by
  refine does_of_awp (good_cons does_sortS good_nil) Tryz.func219 rfl (by decide +kernel) (by decide +kernel) ?_
  rintro args h Q ⟨ic, chg, clk, rfl, g0, hw, hb, hn, hk32, hq⟩
  refine ⟨by simp [Tryz.f219], ?_⟩
  rw [awpFunc_some (by rfl)]
  simp -dsimp only [Vm.G, List.lookup, Nat.reduceAdd, Nat.reduceBEq, Int.reduceBNe, Int.reduceBEq, Nat.reduceLeDiff, q219]
  refine range_intro mt126 chg clk g0 ?_
  simp -dsimp only [Vm.G, List.lookup, Nat.reduceAdd, Nat.reduceBEq, Int.reduceBNe, Int.reduceBEq, Nat.reduceLeDiff, q219]
  refine awp_loop (fun m s h' => ∃ done : List Ent, m = (leftE chg (done.map (·.born))).length ∧ done.length + m ≤ chg.length ∧ h' = h ∧ (∀ d ∈ done, d ∈ chg) ∧ (done.map (·.born)).Nodup ∧ s = mk [(3, .own true 9 1 (((done).map kOf).map (vAv strK))), (6, .iter ic clk ((done).map (·.born)) clk)])
    chg.length _ (le_mk _ ?_) ⟨[], (congrArg List.length (List.filter_eq_self.2 fun _ _ => rfl)).symm, by simp, rfl, by simp, by simp, rfl⟩ ?_
  · simp only [List.forall_mem_cons, List.not_mem_nil, false_imp_iff, implies_true, and_true]
    try simp -dsimp only [Vm.G, List.lookup, Nat.reduceAdd, Nat.reduceBEq, Int.reduceBNe, Int.reduceBEq, Nat.reduceLeDiff, q219]
    repeat' first | exact Fg.refl _ | exact Fg.nil _ _ _ (by decide) | refine And.intro ?_ ?_
  · rintro m s h' ⟨done, rfl, hlen, rfl, hd, hdn, rfl⟩
    simp -dsimp only [Vm.G, List.lookup, Nat.reduceAdd, Nat.reduceBEq, Int.reduceBNe, Int.reduceBEq, Nat.reduceLeDiff, q219]
    refine next_intro chg clk g0 (fun e he => hb.2 e he) (Nat.le_refl _) (fun hlf => ?_) (fun e he => ?_)
    · have hD : done.Perm chg := seen_all hb.1.1 hd hdn hlf
      have hdl := hD.length_eq
      simp -dsimp only [Vm.G, List.lookup, Nat.reduceAdd, Nat.reduceBEq, Int.reduceBNe, Int.reduceBEq, Nat.reduceLeDiff, q219]
      refine call_in _ _ _ ?_
      simp -dsimp only [Vm.G, List.lookup, Nat.reduceAdd, Nat.reduceBEq, Int.reduceBNe, Int.reduceBEq, Nat.reduceLeDiff, q219, callI_eq, ownSl_own, ownSl_alias]
      refine callI_tup (S := orS (sortVSpec strK fun _ => True) sortVNil) (fun xs' => ∃ l' : List (List UInt8), xs' = l'.map (vAv strK) ∧ l'.Perm (done.map kOf)) rfl
        (fun xs' hx => ?_) (fun hx => ⟨?_, fun Q' hq' => .inr ⟨rfl, hq'⟩⟩) (fun c hc Q' hq' => .inl ⟨done.map kOf, _, c, 9, by rw [List.length_map], rfl, by rw [List.length_map]; omega, by rw [List.length_map] at hc; exact hc, fun l' hp _ => hq' _ _ ⟨l', rfl, hp⟩ ?_⟩) (fun xs' hx => ?_)
      · obtain ⟨l', rfl, hp⟩ := hx
        exact ⟨fun x hx => (hp.map _).mem_iff.1 hx, by rw [List.length_map, List.length_map, hp.length_eq]⟩
      · have hnil : done.map kOf = [] := List.map_eq_nil_iff.1 hx
        exact ⟨[], rfl, by rw [hnil]⟩
      · rw [List.take_of_length_le]
        rw [flat_v, List.length_map, Nat.mul_one]
        exact Nat.le_refl _
      · obtain ⟨l', rfl, hp⟩ := hx
        have hll := hp.length_eq
        rw [List.length_map] at hll
        have hks : ∀ k ∈ l', k.length ≤ 32 := fun k hk => by
          obtain ⟨e, he, rfl⟩ := List.mem_map.1 (hp.mem_iff.1 hk)
          exact hk32 e (hd e he)
        simp -dsimp only [Vm.G, List.lookup, Nat.reduceAdd, Nat.reduceBEq, Int.reduceBNe, Int.reduceBEq, Nat.reduceLeDiff, q219]
        exact hq l' (by omega) hks
    · obtain ⟨hem, heb⟩ := left_mem he
      obtain ⟨⟨k, hk⟩, x, l, b, hx, hl, hev⟩ := hw e hem
      obtain ⟨hd2, hdn2⟩ := done_more he hd hdn
      have hless := left_less he
      have emap : (done ++ [e]).map (·.born) = done.map (·.born) ++ [e.born] := by simp
      have hkk := kOf_eq hk
      simp -dsimp only [Vm.G, List.lookup, Nat.reduceAdd, Nat.reduceBEq, Int.reduceBNe, Int.reduceBEq, Nat.reduceLeDiff, q219]
      refine entry_intro chg clk e g0 (find_born hb.1.1 hem) ?_
      simp only [hk, strK]
      simp -dsimp only [Vm.G, List.lookup, Nat.reduceAdd, Nat.reduceBEq, Int.reduceBNe, Int.reduceBEq, Nat.reduceLeDiff, q219]
      refine bs_intro zr9 (by decide) (by decide) rfl rfl (by simp [solid, AV.cells]) ?_
      simp -dsimp only [Vm.G, List.lookup, Nat.reduceAdd, Nat.reduceBEq, Int.reduceBNe, Int.reduceBEq, Nat.reduceLeDiff, q219]
      refine app_sl Tryz.underlying262 (by simp [AV.cells]) (by simp only [List.length_map, List.length_cons, List.length_nil]; omega) ?_
      simp -dsimp only [Vm.G, List.lookup, Nat.reduceAdd, Nat.reduceBEq, Int.reduceBNe, Int.reduceBEq, Nat.reduceLeDiff, q219]
      refine kept_intro ⟨_, hless, _, le_mk [(3, .own true 9 1 (((done ++ [e]).map kOf).map (vAv strK))), (6, .iter ic clk ((done ++ [e]).map (·.born)) clk)] ?_, done ++ [e], by rw [emap], by rw [List.length_append]; simp only [List.length_cons, List.length_nil]; omega, rfl, hd2, hdn2, rfl⟩
      simp only [List.forall_mem_cons, List.not_mem_nil, false_imp_iff, implies_true, and_true, List.map_append, List.map_cons, List.map_nil, hkk, vAv, strK]
      try simp -dsimp only [Vm.G, List.lookup, Nat.reduceAdd, Nat.reduceBEq, Int.reduceBNe, Int.reduceBEq, Nat.reduceLeDiff, q219, List.map_append, List.map_cons, List.map_nil, hkk, vAv, strK]
      repeat' first | exact Fg.refl _ | exact Fg.nil _ _ _ (by decide) | refine And.intro ?_ ?_
/-- What stood beneath, as bytes that are there. -/
def wasWSpec : Vm.Spec := fun args h Q => ∃ (iv ic im : Nat) (mem : List Ent) (clk : Nat) (k : List UInt8), args = [.ptr iv 0, .sl 1 (k.map encB)] ∧ h[iv]? = some (vobj ic im) ∧ h[im]? = some (.map mem clk) ∧ (∀ e ∈ mem, WfM e) ∧
  ∀ (l : List UInt8) (b : Bool), Q (.tup [.sl 1 (l.map encB), .v (.bool b)]) h
theorem does_wasW : Does Tryz.prog 220 wasWSpec := by
  refine does_vwas.weak.imp ?_
  rintro args h Q ⟨iv, ic, im, mem, clk, k, rfl, h1, h2, hw, hq⟩
  refine ⟨iv, ic, im, mem, clk, k, rfl, h1, h2, hw, fun e he => ?_, fun he => ?_⟩
  · obtain ⟨-, l, hx, -⟩ := hw e (mget_mem he)
    exact ⟨_, .tup (.cons hx.ga GaL.rfl), hq l true⟩
  · exact ⟨_, .tup (.cons (.nil 1) GaL.rfl), hq [] false⟩
theorem lookup_shape {t kt et : TypeId} {P : Program} {id : Nat} {h : Heap} {K : AV → Prop} {z : Value} (hm : MapT P t kt et .string) (hz : (P.info? et).bind (·.zero) = some z) (hcz : cst z = .agg [.v (.slice none 0 0), .v (.bool false)]) (chg : List Ent) (clk : Nat) (hh : h[id]? = some (.map chg clk)) (hw : ∀ e ∈ chg, WfC e) (k : List UInt8)
    (hK : ∀ x l b, isB x l → l.length ≤ 120 → K (.agg [x, .v (.bool b)])) : awpLookup P t (.mp id) (.v (.string ⟨k.toArray⟩)) false h K := by
  refine lookup_intro hm hz chg clk hh trivial (keys_str fun e he => (hw e he).1) (fun e he => ?_) (fun he => ?_)
  · obtain ⟨-, x, l, b, hx, hl, hev⟩ := hw e (mget_mem he)
    show K e.val
    rw [hev]; exact hK x l b hx hl
  · show K (cst z)
    rw [hcz]; exact hK _ [] false (.inr ⟨rfl, rfl⟩) (by simp)
theorem len_snoc {α : Type} {l : List α} {x : α} {i : Nat} (h : l.length ≤ i) : (l ++ [x]).length ≤ i + 1 := by rw [List.length_append, List.length_singleton]; omega
def changesSpec : Vm.Spec := fun args h Q => ∃ (V : VId) (f : Fun), args = [.ptr V.iv 0] ∧ isView h V f ∧ f.n ≤ 536870912 ∧ ∀ (p : List KV) (d : List (List UInt8)), Q (.tup [.sl 2 (p.map kvAv), .sl 1 (d.map fun k => .sl 1 (k.map encB))]) h
set_option maxRecDepth 20000 in
set_option maxHeartbeats 8000000 in
theorem does_changes : Does Tryz.prog 141 changesSpec := by
  refine does_of_awp (good_cons does_vready (good_cons does_keys (good_cons does_wasW (good_cons does_equal (good_cons does_cloneW good_nil))))) Tryz.func141 rfl (by decide +kernel) (by decide +kernel) ?_
  rintro args h Q ⟨V, f, rfl, ⟨chg, clk, mem, clk2, h1, h2, h3, h4, h5, h6, h7, hlen, hk32⟩, hfn, hq⟩
  refine ⟨by simp [Tryz.f141], ?_⟩
  rw [awpFunc_some (by rfl)]
  simp -dsimp only [Vm.G, List.lookup, Nat.reduceAdd, Nat.reduceBEq, Int.reduceBNe, Int.reduceBEq, Nat.reduceLeDiff, q141]
  refine call_one (S := vreadySpec) rfl _ GaL.rfl ⟨V.iv, V.ic, _, rfl, h1, ?_⟩
  simp -dsimp only [Vm.G, List.lookup, Nat.reduceAdd, Nat.reduceBEq, Int.reduceBNe, Int.reduceBEq, Nat.reduceLeDiff, q141, h1]
  refine call_one (S := keysSpec) rfl _ GaL.rfl ⟨V.ic, chg, clk, rfl, h2, h5.1, h6.1, by omega, fun e he => hk32 e (.inl he), fun ks hkl hks32 => ?_⟩
  simp -dsimp only [Vm.G, List.lookup, Nat.reduceAdd, Nat.reduceBEq, Int.reduceBNe, Int.reduceBEq, Nat.reduceLeDiff, q141]
  refine awp_loop (fun m s h' => ∃ (i : Nat) (pu : List KV) (de : List (List UInt8)), i + m = ks.length ∧ h' = h ∧ pu.length ≤ i ∧ de.length ≤ i ∧ s = mk [(0, .ptr V.iv 0), (4, .own true 155 2 ((pu).map kvAv)), (5, .own true 32 1 ((de).map fun k => AV.sl 1 (k.map encB))), (18, .own true 9 1 (ks.map (vAv strK))), (19, .v (.int .i64 ks.length)), (20, .v (.int .i64 (i : Nat)))])
    ks.length _ (le_mk _ ?_) ⟨0, [], [], by omega, rfl, by simp, by simp, rfl⟩ ?_
  · simp only [List.forall_mem_cons, List.not_mem_nil, false_imp_iff, implies_true, and_true]
    try simp -dsimp only [Vm.G, List.lookup, Nat.reduceAdd, Nat.reduceBEq, Int.reduceBNe, Int.reduceBEq, Nat.reduceLeDiff, q141]
    repeat' first | exact Fg.refl _ | exact Fg.nil _ _ _ (by decide) | refine And.intro ?_ ?_
  · rintro m s h' ⟨i, pu, de, hi, rfl, hpu, hde, rfl⟩
    simp -dsimp only [Vm.G, List.lookup, Nat.reduceAdd, Nat.reduceBEq, Int.reduceBNe, Int.reduceBEq, Nat.reduceLeDiff, q141]
    refine cond_intro (fun hcc => ?_) (fun hcc => ?_)
    · have hlt : i < ks.length := by have := of_decide_eq_true hcc; omega
      have hw2 : IntKind.i64.wrap ((i : Int) + 1) = ((i + 1 : Nat) : Int) := by rw [wrap_i64 (by omega) (by omega)]; simp
      have hgi : (ks.map (vAv strK))[i]? = some (vAv strK ks[i]) := by rw [List.getElem?_map, List.getElem?_eq_getElem hlt]; rfl
      have hk3 := hks32 ks[i] (List.getElem_mem hlt)
      generalize ks[i] = k at hgi hk3
      have hks : (ByteArray.mk k.toArray).size ≤ maxLen := by
        have : (ByteArray.mk k.toArray).size = k.length := by simp [ByteArray.size]
        rw [this]; unfold maxLen; omega
      have hkd : (ByteArray.mk k.toArray).data.toList = k := by simp
      simp -dsimp only [Vm.G, List.lookup, Nat.reduceAdd, Nat.reduceBEq, Int.reduceBNe, Int.reduceBEq, Nat.reduceLeDiff, q141]
      refine idxO_intro (xs := ks.map (vAv strK)) (by omega) (by simp; omega) ?_
      simp -dsimp only [Vm.G, List.lookup, Nat.reduceAdd, Nat.reduceBEq, Int.reduceBNe, Int.reduceBEq, Nat.reduceLeDiff, q141, Int.toNat_natCast]
      refine eltA_intro (xs := ks.map (vAv strK)) hgi ?_
      simp -dsimp only [Vm.G, List.lookup, Nat.reduceAdd, Nat.reduceBEq, Int.reduceBNe, Int.reduceBEq, Nat.reduceLeDiff, q141, vAv, strK, AV.cells, List.drop_zero, h1]
      refine lookup_shape mt126 z217 (by simp [cst, plain]) chg clk h2 h5.1 k (fun x l b hx hl => ?_)
      have hg := hx.ga
      rcases hx with rfl | ⟨hl0, rfl⟩
      · simp -dsimp only [Vm.G, List.lookup, Nat.reduceAdd, Nat.reduceBEq, Int.reduceBNe, Int.reduceBEq, Nat.reduceLeDiff, q141]
        refine cvX_bytes bt32 Tryz.underlying9 hks ?_
        simp -dsimp only [Vm.G, List.lookup, Nat.reduceAdd, Nat.reduceBEq, Int.reduceBNe, Int.reduceBEq, Nat.reduceLeDiff, q141, hkd]
        refine call_one (S := wasWSpec) rfl _ GaL.rfl ⟨V.iv, V.ic, V.im, mem, clk2, k, rfl, h1, h3, h5.2, fun old was => ?_⟩
        cases b
        · cases was
          · simp -dsimp only [Vm.G, List.lookup, Nat.reduceAdd, Nat.reduceBEq, Int.reduceBNe, Int.reduceBEq, Nat.reduceLeDiff, q141]
            refine cvX_bytes bt32 Tryz.underlying9 hks ?_
            simp -dsimp only [Vm.G, List.lookup, Nat.reduceAdd, Nat.reduceBEq, Int.reduceBNe, Int.reduceBEq, Nat.reduceLeDiff, q141, hkd]
            refine call_one (S := cloneWSpec) rfl _ (GaL.cons hg .nil) ⟨l, by omega, rfl, ?_, ?_⟩
            · simp -dsimp only [Vm.G, List.lookup, Nat.reduceAdd, Nat.reduceBEq, Int.reduceBNe, Int.reduceBEq, Nat.reduceLeDiff, q141]
              refine bs_intro zr155 (by decide) (by decide) rfl rfl (by simp [solid, AV.cells]) ?_
              simp -dsimp only [Vm.G, List.lookup, Nat.reduceAdd, Nat.reduceBEq, Int.reduceBNe, Int.reduceBEq, Nat.reduceLeDiff, q141]
              refine app_sl Tryz.underlying65 (by simp [AV.cells]) (by simp only [List.length_map, List.length_cons, List.length_nil]; omega) ?_
              simp -dsimp only [Vm.G, List.lookup, Nat.reduceAdd, Nat.reduceBEq, Int.reduceBNe, Int.reduceBEq, Nat.reduceLeDiff, q141]
              refine kept_intro ⟨ks.length - (i + 1), by omega, _, le_mk [(0, .ptr V.iv 0), (4, .own true 155 2 ((pu ++ [(k, l)]).map kvAv)), (5, .own true 32 1 ((de).map fun k => AV.sl 1 (k.map encB))), (18, .own true 9 1 (ks.map (vAv strK))), (19, .v (.int .i64 ks.length)), (20, .v (.int .i64 (i + 1 : Nat)))] ?_, i + 1, _, _, by omega, rfl, by exact len_snoc hpu, by omega, rfl⟩
              simp only [List.forall_mem_cons, List.not_mem_nil, false_imp_iff, implies_true, and_true, hw2, List.map_append, List.map_cons, List.map_nil, kvAv]
              try simp -dsimp only [Vm.G, List.lookup, Nat.reduceAdd, Nat.reduceBEq, Int.reduceBNe, Int.reduceBEq, Nat.reduceLeDiff, q141, hw2, List.map_append, List.map_cons, List.map_nil, kvAv]
              repeat' first | exact Fg.refl _ | exact Fg.nil _ _ _ (by decide) | refine And.intro ?_ ?_
            · simp -dsimp only [Vm.G, List.lookup, Nat.reduceAdd, Nat.reduceBEq, Int.reduceBNe, Int.reduceBEq, Nat.reduceLeDiff, q141]
              refine bs_intro zr155 (by decide) (by decide) rfl rfl (by simp [solid, AV.cells]) ?_
              simp -dsimp only [Vm.G, List.lookup, Nat.reduceAdd, Nat.reduceBEq, Int.reduceBNe, Int.reduceBEq, Nat.reduceLeDiff, q141]
              refine app_sl Tryz.underlying65 (by simp [AV.cells]) (by simp only [List.length_map, List.length_cons, List.length_nil]; omega) ?_
              simp -dsimp only [Vm.G, List.lookup, Nat.reduceAdd, Nat.reduceBEq, Int.reduceBNe, Int.reduceBEq, Nat.reduceLeDiff, q141]
              refine kept_intro ⟨ks.length - (i + 1), by omega, _, le_mk [(0, .ptr V.iv 0), (4, .own true 155 2 ((pu ++ [(k, l)]).map kvAv)), (5, .own true 32 1 ((de).map fun k => AV.sl 1 (k.map encB))), (18, .own true 9 1 (ks.map (vAv strK))), (19, .v (.int .i64 ks.length)), (20, .v (.int .i64 (i + 1 : Nat)))] ?_, i + 1, _, _, by omega, rfl, by exact len_snoc hpu, by omega, rfl⟩
              simp only [List.forall_mem_cons, List.not_mem_nil, false_imp_iff, implies_true, and_true, hw2, List.map_append, List.map_cons, List.map_nil, kvAv]
              try simp -dsimp only [Vm.G, List.lookup, Nat.reduceAdd, Nat.reduceBEq, Int.reduceBNe, Int.reduceBEq, Nat.reduceLeDiff, q141, hw2, List.map_append, List.map_cons, List.map_nil, kvAv]
              repeat' first | exact Fg.refl _ | exact Fg.nil _ _ _ (by decide) | refine And.intro ?_ ?_
          · simp -dsimp only [Vm.G, List.lookup, Nat.reduceAdd, Nat.reduceBEq, Int.reduceBNe, Int.reduceBEq, Nat.reduceLeDiff, q141]
            refine call_one (S := equalSpec) rfl _ (GaL.cons (.refl _) (GaL.cons hg .nil)) ⟨old, _, rfl, ?_⟩
            have he := Bool.eq_false_or_eq_true (old == l)
            rcases he with c | c
            · simp -dsimp only [Vm.G, List.lookup, Nat.reduceAdd, Nat.reduceBEq, Int.reduceBNe, Int.reduceBEq, Nat.reduceLeDiff, q141, c]
              refine kept_intro ⟨ks.length - (i + 1), by omega, _, le_mk [(0, .ptr V.iv 0), (4, .own true 155 2 ((pu).map kvAv)), (5, .own true 32 1 ((de).map fun k => AV.sl 1 (k.map encB))), (18, .own true 9 1 (ks.map (vAv strK))), (19, .v (.int .i64 ks.length)), (20, .v (.int .i64 (i + 1 : Nat)))] ?_, i + 1, _, _, by omega, rfl, by omega, by omega, rfl⟩
              simp only [List.forall_mem_cons, List.not_mem_nil, false_imp_iff, implies_true, and_true, hw2, List.map_append, List.map_cons, List.map_nil, kvAv]
              try simp -dsimp only [Vm.G, List.lookup, Nat.reduceAdd, Nat.reduceBEq, Int.reduceBNe, Int.reduceBEq, Nat.reduceLeDiff, q141, hw2, List.map_append, List.map_cons, List.map_nil, kvAv]
              repeat' first | exact Fg.refl _ | exact Fg.nil _ _ _ (by decide) | refine And.intro ?_ ?_
            · simp -dsimp only [Vm.G, List.lookup, Nat.reduceAdd, Nat.reduceBEq, Int.reduceBNe, Int.reduceBEq, Nat.reduceLeDiff, q141, c]
              refine cvX_bytes bt32 Tryz.underlying9 hks ?_
              simp -dsimp only [Vm.G, List.lookup, Nat.reduceAdd, Nat.reduceBEq, Int.reduceBNe, Int.reduceBEq, Nat.reduceLeDiff, q141, hkd]
              refine call_one (S := cloneWSpec) rfl _ (GaL.cons hg .nil) ⟨l, by omega, rfl, ?_, ?_⟩
              · simp -dsimp only [Vm.G, List.lookup, Nat.reduceAdd, Nat.reduceBEq, Int.reduceBNe, Int.reduceBEq, Nat.reduceLeDiff, q141]
                refine bs_intro zr155 (by decide) (by decide) rfl rfl (by simp [solid, AV.cells]) ?_
                simp -dsimp only [Vm.G, List.lookup, Nat.reduceAdd, Nat.reduceBEq, Int.reduceBNe, Int.reduceBEq, Nat.reduceLeDiff, q141]
                refine app_sl Tryz.underlying65 (by simp [AV.cells]) (by simp only [List.length_map, List.length_cons, List.length_nil]; omega) ?_
                simp -dsimp only [Vm.G, List.lookup, Nat.reduceAdd, Nat.reduceBEq, Int.reduceBNe, Int.reduceBEq, Nat.reduceLeDiff, q141]
                refine kept_intro ⟨ks.length - (i + 1), by omega, _, le_mk [(0, .ptr V.iv 0), (4, .own true 155 2 ((pu ++ [(k, l)]).map kvAv)), (5, .own true 32 1 ((de).map fun k => AV.sl 1 (k.map encB))), (18, .own true 9 1 (ks.map (vAv strK))), (19, .v (.int .i64 ks.length)), (20, .v (.int .i64 (i + 1 : Nat)))] ?_, i + 1, _, _, by omega, rfl, by exact len_snoc hpu, by omega, rfl⟩
                simp only [List.forall_mem_cons, List.not_mem_nil, false_imp_iff, implies_true, and_true, hw2, List.map_append, List.map_cons, List.map_nil, kvAv]
                try simp -dsimp only [Vm.G, List.lookup, Nat.reduceAdd, Nat.reduceBEq, Int.reduceBNe, Int.reduceBEq, Nat.reduceLeDiff, q141, hw2, List.map_append, List.map_cons, List.map_nil, kvAv]
                repeat' first | exact Fg.refl _ | exact Fg.nil _ _ _ (by decide) | refine And.intro ?_ ?_
              · simp -dsimp only [Vm.G, List.lookup, Nat.reduceAdd, Nat.reduceBEq, Int.reduceBNe, Int.reduceBEq, Nat.reduceLeDiff, q141]
                refine bs_intro zr155 (by decide) (by decide) rfl rfl (by simp [solid, AV.cells]) ?_
                simp -dsimp only [Vm.G, List.lookup, Nat.reduceAdd, Nat.reduceBEq, Int.reduceBNe, Int.reduceBEq, Nat.reduceLeDiff, q141]
                refine app_sl Tryz.underlying65 (by simp [AV.cells]) (by simp only [List.length_map, List.length_cons, List.length_nil]; omega) ?_
                simp -dsimp only [Vm.G, List.lookup, Nat.reduceAdd, Nat.reduceBEq, Int.reduceBNe, Int.reduceBEq, Nat.reduceLeDiff, q141]
                refine kept_intro ⟨ks.length - (i + 1), by omega, _, le_mk [(0, .ptr V.iv 0), (4, .own true 155 2 ((pu ++ [(k, l)]).map kvAv)), (5, .own true 32 1 ((de).map fun k => AV.sl 1 (k.map encB))), (18, .own true 9 1 (ks.map (vAv strK))), (19, .v (.int .i64 ks.length)), (20, .v (.int .i64 (i + 1 : Nat)))] ?_, i + 1, _, _, by omega, rfl, by exact len_snoc hpu, by omega, rfl⟩
                simp only [List.forall_mem_cons, List.not_mem_nil, false_imp_iff, implies_true, and_true, hw2, List.map_append, List.map_cons, List.map_nil, kvAv]
                try simp -dsimp only [Vm.G, List.lookup, Nat.reduceAdd, Nat.reduceBEq, Int.reduceBNe, Int.reduceBEq, Nat.reduceLeDiff, q141, hw2, List.map_append, List.map_cons, List.map_nil, kvAv]
                repeat' first | exact Fg.refl _ | exact Fg.nil _ _ _ (by decide) | refine And.intro ?_ ?_
        · cases was
          · simp -dsimp only [Vm.G, List.lookup, Nat.reduceAdd, Nat.reduceBEq, Int.reduceBNe, Int.reduceBEq, Nat.reduceLeDiff, q141]
            refine kept_intro ⟨ks.length - (i + 1), by omega, _, le_mk [(0, .ptr V.iv 0), (4, .own true 155 2 ((pu).map kvAv)), (5, .own true 32 1 ((de).map fun k => AV.sl 1 (k.map encB))), (18, .own true 9 1 (ks.map (vAv strK))), (19, .v (.int .i64 ks.length)), (20, .v (.int .i64 (i + 1 : Nat)))] ?_, i + 1, _, _, by omega, rfl, by omega, by omega, rfl⟩
            simp only [List.forall_mem_cons, List.not_mem_nil, false_imp_iff, implies_true, and_true, hw2, List.map_append, List.map_cons, List.map_nil, kvAv]
            try simp -dsimp only [Vm.G, List.lookup, Nat.reduceAdd, Nat.reduceBEq, Int.reduceBNe, Int.reduceBEq, Nat.reduceLeDiff, q141, hw2, List.map_append, List.map_cons, List.map_nil, kvAv]
            repeat' first | exact Fg.refl _ | exact Fg.nil _ _ _ (by decide) | refine And.intro ?_ ?_
          · simp -dsimp only [Vm.G, List.lookup, Nat.reduceAdd, Nat.reduceBEq, Int.reduceBNe, Int.reduceBEq, Nat.reduceLeDiff, q141]
            refine cvX_bytes bt32 Tryz.underlying9 hks ?_
            simp -dsimp only [Vm.G, List.lookup, Nat.reduceAdd, Nat.reduceBEq, Int.reduceBNe, Int.reduceBEq, Nat.reduceLeDiff, q141, hkd]
            refine bs_intro zr32 (by decide) (by decide) rfl rfl (by simp [solid, AV.cells]) ?_
            simp -dsimp only [Vm.G, List.lookup, Nat.reduceAdd, Nat.reduceBEq, Int.reduceBNe, Int.reduceBEq, Nat.reduceLeDiff, q141]
            refine app_sl Tryz.underlying194 (by simp [AV.cells]) (by simp only [List.length_map, List.length_cons, List.length_nil]; omega) ?_
            simp -dsimp only [Vm.G, List.lookup, Nat.reduceAdd, Nat.reduceBEq, Int.reduceBNe, Int.reduceBEq, Nat.reduceLeDiff, q141]
            refine kept_intro ⟨ks.length - (i + 1), by omega, _, le_mk [(0, .ptr V.iv 0), (4, .own true 155 2 ((pu).map kvAv)), (5, .own true 32 1 ((de ++ [k]).map fun k => AV.sl 1 (k.map encB))), (18, .own true 9 1 (ks.map (vAv strK))), (19, .v (.int .i64 ks.length)), (20, .v (.int .i64 (i + 1 : Nat)))] ?_, i + 1, _, _, by omega, rfl, by omega, by exact len_snoc hde, rfl⟩
            simp only [List.forall_mem_cons, List.not_mem_nil, false_imp_iff, implies_true, and_true, hw2, List.map_append, List.map_cons, List.map_nil, kvAv]
            try simp -dsimp only [Vm.G, List.lookup, Nat.reduceAdd, Nat.reduceBEq, Int.reduceBNe, Int.reduceBEq, Nat.reduceLeDiff, q141, hw2, List.map_append, List.map_cons, List.map_nil, kvAv]
            repeat' first | exact Fg.refl _ | exact Fg.nil _ _ _ (by decide) | refine And.intro ?_ ?_
      · simp -dsimp only [Vm.G, List.lookup, Nat.reduceAdd, Nat.reduceBEq, Int.reduceBNe, Int.reduceBEq, Nat.reduceLeDiff, q141]
        refine cvX_bytes bt32 Tryz.underlying9 hks ?_
        simp -dsimp only [Vm.G, List.lookup, Nat.reduceAdd, Nat.reduceBEq, Int.reduceBNe, Int.reduceBEq, Nat.reduceLeDiff, q141, hkd]
        refine call_one (S := wasWSpec) rfl _ GaL.rfl ⟨V.iv, V.ic, V.im, mem, clk2, k, rfl, h1, h3, h5.2, fun old was => ?_⟩
        cases b
        · cases was
          · simp -dsimp only [Vm.G, List.lookup, Nat.reduceAdd, Nat.reduceBEq, Int.reduceBNe, Int.reduceBEq, Nat.reduceLeDiff, q141]
            refine cvX_bytes bt32 Tryz.underlying9 hks ?_
            simp -dsimp only [Vm.G, List.lookup, Nat.reduceAdd, Nat.reduceBEq, Int.reduceBNe, Int.reduceBEq, Nat.reduceLeDiff, q141, hkd]
            refine call_one (S := cloneWSpec) rfl _ (GaL.cons hg .nil) ⟨l, by omega, rfl, ?_, ?_⟩
            · simp -dsimp only [Vm.G, List.lookup, Nat.reduceAdd, Nat.reduceBEq, Int.reduceBNe, Int.reduceBEq, Nat.reduceLeDiff, q141]
              refine bs_intro zr155 (by decide) (by decide) rfl rfl (by simp [solid, AV.cells]) ?_
              simp -dsimp only [Vm.G, List.lookup, Nat.reduceAdd, Nat.reduceBEq, Int.reduceBNe, Int.reduceBEq, Nat.reduceLeDiff, q141]
              refine app_sl Tryz.underlying65 (by simp [AV.cells]) (by simp only [List.length_map, List.length_cons, List.length_nil]; omega) ?_
              simp -dsimp only [Vm.G, List.lookup, Nat.reduceAdd, Nat.reduceBEq, Int.reduceBNe, Int.reduceBEq, Nat.reduceLeDiff, q141]
              refine kept_intro ⟨ks.length - (i + 1), by omega, _, le_mk [(0, .ptr V.iv 0), (4, .own true 155 2 ((pu ++ [(k, l)]).map kvAv)), (5, .own true 32 1 ((de).map fun k => AV.sl 1 (k.map encB))), (18, .own true 9 1 (ks.map (vAv strK))), (19, .v (.int .i64 ks.length)), (20, .v (.int .i64 (i + 1 : Nat)))] ?_, i + 1, _, _, by omega, rfl, by exact len_snoc hpu, by omega, rfl⟩
              simp only [List.forall_mem_cons, List.not_mem_nil, false_imp_iff, implies_true, and_true, hw2, List.map_append, List.map_cons, List.map_nil, kvAv]
              try simp -dsimp only [Vm.G, List.lookup, Nat.reduceAdd, Nat.reduceBEq, Int.reduceBNe, Int.reduceBEq, Nat.reduceLeDiff, q141, hw2, List.map_append, List.map_cons, List.map_nil, kvAv]
              repeat' first | exact Fg.refl _ | exact Fg.nil _ _ _ (by decide) | refine And.intro ?_ ?_
            · simp -dsimp only [Vm.G, List.lookup, Nat.reduceAdd, Nat.reduceBEq, Int.reduceBNe, Int.reduceBEq, Nat.reduceLeDiff, q141]
              refine bs_intro zr155 (by decide) (by decide) rfl rfl (by simp [solid, AV.cells]) ?_
              simp -dsimp only [Vm.G, List.lookup, Nat.reduceAdd, Nat.reduceBEq, Int.reduceBNe, Int.reduceBEq, Nat.reduceLeDiff, q141]
              refine app_sl Tryz.underlying65 (by simp [AV.cells]) (by simp only [List.length_map, List.length_cons, List.length_nil]; omega) ?_
              simp -dsimp only [Vm.G, List.lookup, Nat.reduceAdd, Nat.reduceBEq, Int.reduceBNe, Int.reduceBEq, Nat.reduceLeDiff, q141]
              refine kept_intro ⟨ks.length - (i + 1), by omega, _, le_mk [(0, .ptr V.iv 0), (4, .own true 155 2 ((pu ++ [(k, l)]).map kvAv)), (5, .own true 32 1 ((de).map fun k => AV.sl 1 (k.map encB))), (18, .own true 9 1 (ks.map (vAv strK))), (19, .v (.int .i64 ks.length)), (20, .v (.int .i64 (i + 1 : Nat)))] ?_, i + 1, _, _, by omega, rfl, by exact len_snoc hpu, by omega, rfl⟩
              simp only [List.forall_mem_cons, List.not_mem_nil, false_imp_iff, implies_true, and_true, hw2, List.map_append, List.map_cons, List.map_nil, kvAv]
              try simp -dsimp only [Vm.G, List.lookup, Nat.reduceAdd, Nat.reduceBEq, Int.reduceBNe, Int.reduceBEq, Nat.reduceLeDiff, q141, hw2, List.map_append, List.map_cons, List.map_nil, kvAv]
              repeat' first | exact Fg.refl _ | exact Fg.nil _ _ _ (by decide) | refine And.intro ?_ ?_
          · simp -dsimp only [Vm.G, List.lookup, Nat.reduceAdd, Nat.reduceBEq, Int.reduceBNe, Int.reduceBEq, Nat.reduceLeDiff, q141]
            refine call_one (S := equalSpec) rfl _ (GaL.cons (.refl _) (GaL.cons hg .nil)) ⟨old, _, rfl, ?_⟩
            have he := Bool.eq_false_or_eq_true (old == l)
            rcases he with c | c
            · simp -dsimp only [Vm.G, List.lookup, Nat.reduceAdd, Nat.reduceBEq, Int.reduceBNe, Int.reduceBEq, Nat.reduceLeDiff, q141, c]
              refine kept_intro ⟨ks.length - (i + 1), by omega, _, le_mk [(0, .ptr V.iv 0), (4, .own true 155 2 ((pu).map kvAv)), (5, .own true 32 1 ((de).map fun k => AV.sl 1 (k.map encB))), (18, .own true 9 1 (ks.map (vAv strK))), (19, .v (.int .i64 ks.length)), (20, .v (.int .i64 (i + 1 : Nat)))] ?_, i + 1, _, _, by omega, rfl, by omega, by omega, rfl⟩
              simp only [List.forall_mem_cons, List.not_mem_nil, false_imp_iff, implies_true, and_true, hw2, List.map_append, List.map_cons, List.map_nil, kvAv]
              try simp -dsimp only [Vm.G, List.lookup, Nat.reduceAdd, Nat.reduceBEq, Int.reduceBNe, Int.reduceBEq, Nat.reduceLeDiff, q141, hw2, List.map_append, List.map_cons, List.map_nil, kvAv]
              repeat' first | exact Fg.refl _ | exact Fg.nil _ _ _ (by decide) | refine And.intro ?_ ?_
            · simp -dsimp only [Vm.G, List.lookup, Nat.reduceAdd, Nat.reduceBEq, Int.reduceBNe, Int.reduceBEq, Nat.reduceLeDiff, q141, c]
              refine cvX_bytes bt32 Tryz.underlying9 hks ?_
              simp -dsimp only [Vm.G, List.lookup, Nat.reduceAdd, Nat.reduceBEq, Int.reduceBNe, Int.reduceBEq, Nat.reduceLeDiff, q141, hkd]
              refine call_one (S := cloneWSpec) rfl _ (GaL.cons hg .nil) ⟨l, by omega, rfl, ?_, ?_⟩
              · simp -dsimp only [Vm.G, List.lookup, Nat.reduceAdd, Nat.reduceBEq, Int.reduceBNe, Int.reduceBEq, Nat.reduceLeDiff, q141]
                refine bs_intro zr155 (by decide) (by decide) rfl rfl (by simp [solid, AV.cells]) ?_
                simp -dsimp only [Vm.G, List.lookup, Nat.reduceAdd, Nat.reduceBEq, Int.reduceBNe, Int.reduceBEq, Nat.reduceLeDiff, q141]
                refine app_sl Tryz.underlying65 (by simp [AV.cells]) (by simp only [List.length_map, List.length_cons, List.length_nil]; omega) ?_
                simp -dsimp only [Vm.G, List.lookup, Nat.reduceAdd, Nat.reduceBEq, Int.reduceBNe, Int.reduceBEq, Nat.reduceLeDiff, q141]
                refine kept_intro ⟨ks.length - (i + 1), by omega, _, le_mk [(0, .ptr V.iv 0), (4, .own true 155 2 ((pu ++ [(k, l)]).map kvAv)), (5, .own true 32 1 ((de).map fun k => AV.sl 1 (k.map encB))), (18, .own true 9 1 (ks.map (vAv strK))), (19, .v (.int .i64 ks.length)), (20, .v (.int .i64 (i + 1 : Nat)))] ?_, i + 1, _, _, by omega, rfl, by exact len_snoc hpu, by omega, rfl⟩
                simp only [List.forall_mem_cons, List.not_mem_nil, false_imp_iff, implies_true, and_true, hw2, List.map_append, List.map_cons, List.map_nil, kvAv]
                try simp -dsimp only [Vm.G, List.lookup, Nat.reduceAdd, Nat.reduceBEq, Int.reduceBNe, Int.reduceBEq, Nat.reduceLeDiff, q141, hw2, List.map_append, List.map_cons, List.map_nil, kvAv]
                repeat' first | exact Fg.refl _ | exact Fg.nil _ _ _ (by decide) | refine And.intro ?_ ?_
              · simp -dsimp only [Vm.G, List.lookup, Nat.reduceAdd, Nat.reduceBEq, Int.reduceBNe, Int.reduceBEq, Nat.reduceLeDiff, q141]
                refine bs_intro zr155 (by decide) (by decide) rfl rfl (by simp [solid, AV.cells]) ?_
                simp -dsimp only [Vm.G, List.lookup, Nat.reduceAdd, Nat.reduceBEq, Int.reduceBNe, Int.reduceBEq, Nat.reduceLeDiff, q141]
                refine app_sl Tryz.underlying65 (by simp [AV.cells]) (by simp only [List.length_map, List.length_cons, List.length_nil]; omega) ?_
                simp -dsimp only [Vm.G, List.lookup, Nat.reduceAdd, Nat.reduceBEq, Int.reduceBNe, Int.reduceBEq, Nat.reduceLeDiff, q141]
                refine kept_intro ⟨ks.length - (i + 1), by omega, _, le_mk [(0, .ptr V.iv 0), (4, .own true 155 2 ((pu ++ [(k, l)]).map kvAv)), (5, .own true 32 1 ((de).map fun k => AV.sl 1 (k.map encB))), (18, .own true 9 1 (ks.map (vAv strK))), (19, .v (.int .i64 ks.length)), (20, .v (.int .i64 (i + 1 : Nat)))] ?_, i + 1, _, _, by omega, rfl, by exact len_snoc hpu, by omega, rfl⟩
                simp only [List.forall_mem_cons, List.not_mem_nil, false_imp_iff, implies_true, and_true, hw2, List.map_append, List.map_cons, List.map_nil, kvAv]
                try simp -dsimp only [Vm.G, List.lookup, Nat.reduceAdd, Nat.reduceBEq, Int.reduceBNe, Int.reduceBEq, Nat.reduceLeDiff, q141, hw2, List.map_append, List.map_cons, List.map_nil, kvAv]
                repeat' first | exact Fg.refl _ | exact Fg.nil _ _ _ (by decide) | refine And.intro ?_ ?_
        · cases was
          · simp -dsimp only [Vm.G, List.lookup, Nat.reduceAdd, Nat.reduceBEq, Int.reduceBNe, Int.reduceBEq, Nat.reduceLeDiff, q141]
            refine kept_intro ⟨ks.length - (i + 1), by omega, _, le_mk [(0, .ptr V.iv 0), (4, .own true 155 2 ((pu).map kvAv)), (5, .own true 32 1 ((de).map fun k => AV.sl 1 (k.map encB))), (18, .own true 9 1 (ks.map (vAv strK))), (19, .v (.int .i64 ks.length)), (20, .v (.int .i64 (i + 1 : Nat)))] ?_, i + 1, _, _, by omega, rfl, by omega, by omega, rfl⟩
            simp only [List.forall_mem_cons, List.not_mem_nil, false_imp_iff, implies_true, and_true, hw2, List.map_append, List.map_cons, List.map_nil, kvAv]
            try simp -dsimp only [Vm.G, List.lookup, Nat.reduceAdd, Nat.reduceBEq, Int.reduceBNe, Int.reduceBEq, Nat.reduceLeDiff, q141, hw2, List.map_append, List.map_cons, List.map_nil, kvAv]
            repeat' first | exact Fg.refl _ | exact Fg.nil _ _ _ (by decide) | refine And.intro ?_ ?_
          · simp -dsimp only [Vm.G, List.lookup, Nat.reduceAdd, Nat.reduceBEq, Int.reduceBNe, Int.reduceBEq, Nat.reduceLeDiff, q141]
            refine cvX_bytes bt32 Tryz.underlying9 hks ?_
            simp -dsimp only [Vm.G, List.lookup, Nat.reduceAdd, Nat.reduceBEq, Int.reduceBNe, Int.reduceBEq, Nat.reduceLeDiff, q141, hkd]
            refine bs_intro zr32 (by decide) (by decide) rfl rfl (by simp [solid, AV.cells]) ?_
            simp -dsimp only [Vm.G, List.lookup, Nat.reduceAdd, Nat.reduceBEq, Int.reduceBNe, Int.reduceBEq, Nat.reduceLeDiff, q141]
            refine app_sl Tryz.underlying194 (by simp [AV.cells]) (by simp only [List.length_map, List.length_cons, List.length_nil]; omega) ?_
            simp -dsimp only [Vm.G, List.lookup, Nat.reduceAdd, Nat.reduceBEq, Int.reduceBNe, Int.reduceBEq, Nat.reduceLeDiff, q141]
            refine kept_intro ⟨ks.length - (i + 1), by omega, _, le_mk [(0, .ptr V.iv 0), (4, .own true 155 2 ((pu).map kvAv)), (5, .own true 32 1 ((de ++ [k]).map fun k => AV.sl 1 (k.map encB))), (18, .own true 9 1 (ks.map (vAv strK))), (19, .v (.int .i64 ks.length)), (20, .v (.int .i64 (i + 1 : Nat)))] ?_, i + 1, _, _, by omega, rfl, by omega, by exact len_snoc hde, rfl⟩
            simp only [List.forall_mem_cons, List.not_mem_nil, false_imp_iff, implies_true, and_true, hw2, List.map_append, List.map_cons, List.map_nil, kvAv]
            try simp -dsimp only [Vm.G, List.lookup, Nat.reduceAdd, Nat.reduceBEq, Int.reduceBNe, Int.reduceBEq, Nat.reduceLeDiff, q141, hw2, List.map_append, List.map_cons, List.map_nil, kvAv]
            repeat' first | exact Fg.refl _ | exact Fg.nil _ _ _ (by decide) | refine And.intro ?_ ?_
    · have hge : ¬ i < ks.length := by have := of_decide_eq_false hcc; omega
      simp -dsimp only [Vm.G, List.lookup, Nat.reduceAdd, Nat.reduceBEq, Int.reduceBNe, Int.reduceBEq, Nat.reduceLeDiff, q141]
      exact hq pu de
theorem heap_set_same {h : Heap} {i : Nat} {x : AObj} (hx : h[i]? = some x) : h.set i x = h := by
  apply List.ext_getElem?
  intro j
  rw [List.getElem?_set]
  split
  · rename_i e; subst e
    split
    · exact hx.symm
    · rename_i hn; exact absurd (get_lt hx) hn
  · rfl
theorem Kept.perm {mem0 done chg mem : List Ent} {clk : Nat} (h : Kept mem0 done mem clk) (hp : done.Perm chg) (hk : ∀ e ∈ chg, ∃ k, e.key = strK k) (hn : (chg.map kOf).Nodup) : Kept mem0 chg mem clk :=
  ⟨h.wf, h.born, by have := hp.length_eq; have := h.len; omega, h.short, fun k => by
    rw [h.now k]
    exact nowOf_perm hp (fun e he => hk e (hp.mem_iff.1 he)) ((hp.map kOf).nodup_iff.2 hn) k⟩
def keepSpec : Vm.Spec := fun args h Q => ∃ (V : VId) (chg mem : List Ent) (clk clk2 : Nat), args = [.ptr V.iv 0] ∧ h[V.iv]? = some (vobj V.ic V.im) ∧ h[V.ic]? = some (.map chg clk) ∧ h[V.im]? = some (.map mem clk2) ∧ (V.iv ≠ V.im ∧ V.ic ≠ V.im) ∧ ((∀ e ∈ chg, WfC e) ∧ ∀ e ∈ mem, WfM e) ∧ (Born chg clk ∧ Born mem clk2) ∧
  (∀ e, e ∈ chg ∨ e ∈ mem → (kOf e).length ≤ 32) ∧ ∀ mem' clk', Kept mem chg mem' clk' → Q (.tup []) (h.set V.im (.map mem' clk'))
set_option maxRecDepth 20000 in
set_option maxHeartbeats 2000000 in
theorem does_keep : Does Tryz.prog 142 keepSpec := by
  refine does_of_awp good_nil Tryz.func142 rfl (by decide +kernel) (by decide +kernel) ?_
  rintro args h Q ⟨V, chg, mem, clk, clk2, rfl, h1, h2, h3, h4, h5, h6, hk32, hq⟩
  refine ⟨by simp [Tryz.f142], ?_⟩
  rw [awpFunc_some (by rfl)]
  simp -dsimp only [Vm.G, List.lookup, Nat.reduceAdd, Nat.reduceBEq, Int.reduceBNe, Int.reduceBEq, Nat.reduceLeDiff, q142, h1]
  refine range_intro mt126 chg clk h2 ?_
  simp -dsimp only [Vm.G, List.lookup, Nat.reduceAdd, Nat.reduceBEq, Int.reduceBNe, Int.reduceBEq, Nat.reduceLeDiff, q142]
  refine awp_loop (fun m s h' => ∃ (done me : List Ent) (ck : Nat), m = (leftE chg (done.map (·.born))).length ∧ done.length + m ≤ chg.length ∧ Kept mem done me ck ∧ h' = h.set V.im (.map me ck) ∧ (∀ d ∈ done, d ∈ chg) ∧ (done.map (·.born)).Nodup ∧ s = mk [(0, .ptr V.iv 0), (8, .iter V.ic clk ((done).map (·.born)) clk)])
    chg.length _ (le_mk _ ?_) ⟨[], mem, clk2, (congrArg List.length (List.filter_eq_self.2 fun _ _ => rfl)).symm, by simp, ⟨h5.2, h6.2, by simp, fun e he => hk32 e (.inr he), fun k => rfl⟩, (heap_set_same h3).symm, by simp, by simp, rfl⟩ ?_
  · simp only [List.forall_mem_cons, List.not_mem_nil, false_imp_iff, implies_true, and_true]
    try simp -dsimp only [Vm.G, List.lookup, Nat.reduceAdd, Nat.reduceBEq, Int.reduceBNe, Int.reduceBEq, Nat.reduceLeDiff, q142]
    repeat' first | exact Fg.refl _ | exact Fg.nil _ _ _ (by decide) | refine And.intro ?_ ?_
  · rintro m s h' ⟨done, me, ck, rfl, hlen, hK, hh, hd, hdn, rfl⟩
    have g1 : h'[V.iv]? = some (vobj V.ic V.im) := by rw [hh, List.getElem?_set_ne h4.1.symm]; exact h1
    have g2 : h'[V.ic]? = some (.map chg clk) := by rw [hh, List.getElem?_set_ne h4.2.symm]; exact h2
    have g3 : h'[V.im]? = some (.map me ck) := by rw [hh, List.getElem?_set_self (get_lt h3)]
    simp -dsimp only [Vm.G, List.lookup, Nat.reduceAdd, Nat.reduceBEq, Int.reduceBNe, Int.reduceBEq, Nat.reduceLeDiff, q142]
    refine next_intro chg clk g2 (fun e he => h6.1.2 e he) (Nat.le_refl _) (fun hlf => ?_) (fun e he => ?_)
    · have hD : done.Perm chg := seen_all h6.1.1.1 hd hdn hlf
      simp -dsimp only [Vm.G, List.lookup, Nat.reduceAdd, Nat.reduceBEq, Int.reduceBNe, Int.reduceBEq, Nat.reduceLeDiff, q142]
      rw [hh]
      exact hq me ck (hK.perm hD (fun e he => (h5.1 e he).1) h6.1.1.2)
    · obtain ⟨hem, heb⟩ := left_mem he
      obtain ⟨⟨k, hk⟩, x, l, b, hx, hl, hev⟩ := h5.1 e hem
      obtain ⟨hd2, hdn2⟩ := done_more he hd hdn
      have hless := left_less he
      have emap : (done ++ [e]).map (·.born) = done.map (·.born) ++ [e.born] := by simp
      have hkk := kOf_eq hk
      have hke : k.length ≤ 32 := by rw [← hkk]; exact hk32 e (.inl hem)
      have hkd : ∀ e ∈ done, ∃ k, e.key = strK k := fun e he => (h5.1 e (hd e he)).1
      have hnn : ((done ++ [e]).map kOf).Nodup := by
        have hdd : (done ++ [e]).Nodup := by
          exact List.Pairwise.of_map (fun e : Ent => e.born) (fun a b h e => h (by rw [e])) hdn2
        refine List.Pairwise.map kOf (fun a b hab => hab) ?_
        refine hdd.imp_of_mem fun {a b} ha hb hne => ?_
        intro e2
        exact hne (inj_of_map h6.1.1.2 (hd2 a ha) (hd2 b hb) e2)
      simp -dsimp only [Vm.G, List.lookup, Nat.reduceAdd, Nat.reduceBEq, Int.reduceBNe, Int.reduceBEq, Nat.reduceLeDiff, q142]
      refine entry_intro chg clk e g2 (find_born h6.1.1.1 hem) ?_
      simp only [hk, strK, hev]
      cases b
      · have hx0 := hx
        rcases hx with rfl | ⟨rfl, rfl⟩
        · simp -dsimp only [Vm.G, List.lookup, Nat.reduceAdd, Nat.reduceBEq, Int.reduceBNe, Int.reduceBEq, Nat.reduceLeDiff, q142]
          refine draw_cont [3] (.take 0 (.take 1 (.take 2 (.take 4 (.take 5 (.take 6 (.alt 3 (.alt 7 (.done) .stop) .stop))))))) (fun s h2 => h2 = h'.set V.im (.map (mput (strK k) (.sl 1 (l.map encB)) ck me) (mclk (strK k) me ck)) ∧ s 0 = .ptr V.iv 0 ∧ s 8 = .iter V.ic clk (done.map (·.born) ++ [e.born]) clk) (by kernel_rfl) (by kernel_rfl) (by kernel_rfl) (by decide) ?_ ?_
          · simp -dsimp only [Vm.G, List.lookup, Nat.reduceAdd, Nat.reduceBEq, Int.reduceBNe, Int.reduceBEq, Nat.reduceLeDiff, q142, g1]
            refine update_intro mt127 me ck g3 trivial (keys_str fun e he => (hK.wf e he).1) ?_
            simp -dsimp only [Vm.G, List.lookup, Nat.reduceAdd, Nat.reduceBEq, Int.reduceBNe, Int.reduceBEq, Nat.reduceLeDiff, q142]
            repeat' first | rfl | exact True.intro | refine And.intro ?_ ?_
          · rintro s h2 ⟨rfl, e0, e8⟩
            simp -dsimp only [Vm.G, List.lookup, Nat.reduceAdd, Nat.reduceBEq, Int.reduceBNe, Int.reduceBEq, Nat.reduceLeDiff, q142, e0, e8]
            refine kept_intro ⟨_, hless, _, le_mk [(0, .ptr V.iv 0), (8, .iter V.ic clk ((done ++ [e]).map (·.born)) clk)] ?_, done ++ [e], _, _, by rw [emap], by rw [List.length_append]; simp only [List.length_cons, List.length_nil]; omega, hK.put hk (by rw [hev]; exact congrArg some (bytesOf_isB hx0)) hx0 hl hke hkd hnn, by rw [hh, List.set_set], hd2, hdn2, rfl⟩
            simp only [List.forall_mem_cons, List.not_mem_nil, false_imp_iff, implies_true, and_true, emap, e0, e8]
            try simp -dsimp only [Vm.G, List.lookup, Nat.reduceAdd, Nat.reduceBEq, Int.reduceBNe, Int.reduceBEq, Nat.reduceLeDiff, q142, emap, e0, e8]
            repeat' first | exact Fg.refl _ | exact Fg.nil _ _ _ (by decide) | refine And.intro ?_ ?_
        · simp -dsimp only [Vm.G, List.lookup, Nat.reduceAdd, Nat.reduceBEq, Int.reduceBNe, Int.reduceBEq, Nat.reduceLeDiff, q142]
          refine draw_cont [3] (.take 0 (.take 1 (.take 2 (.take 4 (.take 5 (.take 6 (.alt 3 (.alt 7 (.done) .stop) .stop))))))) (fun s h2 => h2 = h'.set V.im (.map (mput (strK k) (.v (.slice none 0 0)) ck me) (mclk (strK k) me ck)) ∧ s 0 = .ptr V.iv 0 ∧ s 8 = .iter V.ic clk (done.map (·.born) ++ [e.born]) clk) (by kernel_rfl) (by kernel_rfl) (by kernel_rfl) (by decide) ?_ ?_
          · simp -dsimp only [Vm.G, List.lookup, Nat.reduceAdd, Nat.reduceBEq, Int.reduceBNe, Int.reduceBEq, Nat.reduceLeDiff, q142, g1]
            refine update_intro mt127 me ck g3 trivial (keys_str fun e he => (hK.wf e he).1) ?_
            simp -dsimp only [Vm.G, List.lookup, Nat.reduceAdd, Nat.reduceBEq, Int.reduceBNe, Int.reduceBEq, Nat.reduceLeDiff, q142]
            repeat' first | rfl | exact True.intro | refine And.intro ?_ ?_
          · rintro s h2 ⟨rfl, e0, e8⟩
            simp -dsimp only [Vm.G, List.lookup, Nat.reduceAdd, Nat.reduceBEq, Int.reduceBNe, Int.reduceBEq, Nat.reduceLeDiff, q142, e0, e8]
            refine kept_intro ⟨_, hless, _, le_mk [(0, .ptr V.iv 0), (8, .iter V.ic clk ((done ++ [e]).map (·.born)) clk)] ?_, done ++ [e], _, _, by rw [emap], by rw [List.length_append]; simp only [List.length_cons, List.length_nil]; omega, hK.put hk (by rw [hev]; exact congrArg some (bytesOf_isB hx0)) hx0 hl hke hkd hnn, by rw [hh, List.set_set], hd2, hdn2, rfl⟩
            simp only [List.forall_mem_cons, List.not_mem_nil, false_imp_iff, implies_true, and_true, emap, e0, e8]
            try simp -dsimp only [Vm.G, List.lookup, Nat.reduceAdd, Nat.reduceBEq, Int.reduceBNe, Int.reduceBEq, Nat.reduceLeDiff, q142, emap, e0, e8]
            repeat' first | exact Fg.refl _ | exact Fg.nil _ _ _ (by decide) | refine And.intro ?_ ?_
      · have hx0 := hx
        have hs : shapeOf e.val = none := by rw [hev]; rfl
        rcases hx with rfl | ⟨rfl, rfl⟩
        · simp -dsimp only [Vm.G, List.lookup, Nat.reduceAdd, Nat.reduceBEq, Int.reduceBNe, Int.reduceBEq, Nat.reduceLeDiff, q142, g1]
          refine delete_intro mt127 me ck g3 trivial (keys_str fun e he => (hK.wf e he).1) ?_
          simp -dsimp only [Vm.G, List.lookup, Nat.reduceAdd, Nat.reduceBEq, Int.reduceBNe, Int.reduceBEq, Nat.reduceLeDiff, q142]
          refine kept_intro ⟨_, hless, _, le_mk [(0, .ptr V.iv 0), (8, .iter V.ic clk ((done ++ [e]).map (·.born)) clk)] ?_, done ++ [e], _, _, by rw [emap], by rw [List.length_append]; simp only [List.length_cons, List.length_nil]; omega, hK.del hk hs hkd hnn, by rw [hh, List.set_set]; rfl, hd2, hdn2, rfl⟩
          simp only [List.forall_mem_cons, List.not_mem_nil, false_imp_iff, implies_true, and_true, emap]
          try simp -dsimp only [Vm.G, List.lookup, Nat.reduceAdd, Nat.reduceBEq, Int.reduceBNe, Int.reduceBEq, Nat.reduceLeDiff, q142, emap]
          repeat' first | exact Fg.refl _ | exact Fg.nil _ _ _ (by decide) | refine And.intro ?_ ?_
        · simp -dsimp only [Vm.G, List.lookup, Nat.reduceAdd, Nat.reduceBEq, Int.reduceBNe, Int.reduceBEq, Nat.reduceLeDiff, q142, g1]
          refine delete_intro mt127 me ck g3 trivial (keys_str fun e he => (hK.wf e he).1) ?_
          simp -dsimp only [Vm.G, List.lookup, Nat.reduceAdd, Nat.reduceBEq, Int.reduceBNe, Int.reduceBEq, Nat.reduceLeDiff, q142]
          refine kept_intro ⟨_, hless, _, le_mk [(0, .ptr V.iv 0), (8, .iter V.ic clk ((done ++ [e]).map (·.born)) clk)] ?_, done ++ [e], _, _, by rw [emap], by rw [List.length_append]; simp only [List.length_cons, List.length_nil]; omega, hK.del hk hs hkd hnn, by rw [hh, List.set_set]; rfl, hd2, hdn2, rfl⟩
          simp only [List.forall_mem_cons, List.not_mem_nil, false_imp_iff, implies_true, and_true, emap]
          try simp -dsimp only [Vm.G, List.lookup, Nat.reduceAdd, Nat.reduceBEq, Int.reduceBNe, Int.reduceBEq, Nat.reduceLeDiff, q142, emap]
          repeat' first | exact Fg.refl _ | exact Fg.nil _ _ _ (by decide) | refine And.intro ?_ ?_
def commitSpec : Vm.Spec := fun args h Q => ∃ (V : VId) (f : Fun), args = [.ptr V.iv 0] ∧ isView h V f ∧ f.n ≤ 536870912 ∧ ∀ h', isView h' V f → memV h' V f → Same h h' [V.ic, V.im] → Q (.v (.int .i64 0)) h'
set_option maxHeartbeats 1000000 in
theorem does_commit : Does Tryz.prog 65 commitSpec := by
  refine does_of_awp (good_cons does_vready (good_cons does_changes (good_cons does_keep good_nil))) Tryz.func65 rfl (by decide +kernel) (by decide +kernel) ?_
  rintro args h Q ⟨V, f, rfl, hV, hfn, hq⟩
  refine ⟨by simp [Tryz.f65], ?_⟩
  rw [awpFunc_some (by rfl)]
  have hV0 := hV
  obtain ⟨chg, clk, mem, clk2, h1, h2, h3, h4, h5, h6, h7, hlen, hk32⟩ := hV
  simp -dsimp only [Vm.G, List.lookup, Nat.reduceAdd, Nat.reduceBEq, Int.reduceBNe, Int.reduceBEq, Nat.reduceLeDiff, q65]
  refine call_one (S := vreadySpec) rfl _ GaL.rfl ⟨V.iv, V.ic, _, rfl, h1, ?_⟩
  simp -dsimp only [Vm.G, List.lookup, Nat.reduceAdd, Nat.reduceBEq, Int.reduceBNe, Int.reduceBEq, Nat.reduceLeDiff, q65]
  refine call_one (S := changesSpec) rfl _ GaL.rfl ⟨V, f, rfl, hV0, hfn, fun p d => ?_⟩
  simp -dsimp only [Vm.G, List.lookup, Nat.reduceAdd, Nat.reduceBEq, Int.reduceBNe, Int.reduceBEq, Nat.reduceLeDiff, q65, h1, bne_self_eq_false]
  refine nil_pointer Tryz.underlying124 ?_
  simp -dsimp only [Vm.G, List.lookup, Nat.reduceAdd, Nat.reduceBEq, Int.reduceBNe, Int.reduceBEq, Nat.reduceLeDiff, q65]
  refine call_one (S := keepSpec) rfl _ GaL.rfl ⟨V, chg, mem, clk, clk2, rfl, h1, h2, h3, ⟨h4.2.1, h4.2.2⟩, h5, h6, hk32, fun me ck hK => ?_⟩
  have g1 : (h.set V.im (.map me ck))[V.iv]? = some (vobj V.ic V.im) := by rw [List.getElem?_set_ne h4.2.1.symm]; exact h1
  have g2 : (h.set V.im (.map me ck))[V.ic]? = some (.map chg clk) := by rw [List.getElem?_set_ne h4.2.2.symm]; exact h2
  have g3 : (h.set V.im (.map me ck))[V.im]? = some (.map me ck) := List.getElem?_set_self (get_lt h3)
  have hsame : Same h (h.set V.im (.map me ck)) [V.ic, V.im] := ⟨by simp, fun i _ hi => List.getElem?_set_ne (by simp at hi; omega)⟩
  generalize h.set V.im (.map me ck) = hh at g1 g2 g3 hsame ⊢
  simp -dsimp only [Vm.G, List.lookup, Nat.reduceAdd, Nat.reduceBEq, Int.reduceBNe, Int.reduceBEq, Nat.reduceLeDiff, q65, g1]
  refine clear_intro mt126 chg clk g2 ?_
  simp -dsimp only [Vm.G, List.lookup, Nat.reduceAdd, Nat.reduceBEq, Int.reduceBNe, Int.reduceBEq, Nat.reduceLeDiff, q65]
  have k1 : (hh.set V.ic (.map [] clk))[V.iv]? = some (vobj V.ic V.im) := by rw [List.getElem?_set_ne h4.1.symm]; exact g1
  have k2 : (hh.set V.ic (.map [] clk))[V.ic]? = some (.map [] clk) := List.getElem?_set_self (get_lt g2)
  have k3 : (hh.set V.ic (.map [] clk))[V.im]? = some (.map me ck) := by rw [List.getElem?_set_ne h4.2.2]; exact g3
  have hn : ∀ k, f k = memOf me k := fun k => by rw [hK.now k]; exact h7 k
  have hl : me.length ≤ f.n := by have := hK.len; omega
  refine hq _ ⟨[], clk, me, ck, k1, k2, k3, h4, ⟨by simp, hK.wf⟩, ⟨⟨⟨.nil, .nil⟩, by simp⟩, hK.born⟩, hn, by simpa using hl, fun e he => ?_⟩ ⟨me, ck, k3, hn, hl⟩ (hsame.trans ⟨by simp, fun i _ hi => List.getElem?_set_ne (by simp at hi; omega)⟩)
  rcases he with he | he
  · simp at he
  · exact hK.short e he
def abortSpec : Vm.Spec := fun args h Q => ∃ (V : VId) (f g : Fun), args = [.ptr V.iv 0] ∧ isView h V f ∧ memV h V g ∧ ∀ h', isView h' V g → memV h' V g → Same h h' [V.ic] → Q (.tup []) h'
theorem does_abort : Does Tryz.prog 67 abortSpec := by
  refine does_of_awp (good_cons does_vready good_nil) Tryz.func67 rfl (by decide +kernel) (by decide +kernel) ?_
  rintro args h Q ⟨V, f, g, rfl, ⟨chg, clk, mem, clk2, h1, h2, h3, h4, h5, h6, h7, hlen, hk32⟩, ⟨mem', ck', hm1, hm2, hm3⟩, hq⟩
  refine ⟨by simp [Tryz.f67], ?_⟩
  rw [awpFunc_some (by rfl)]
  rw [h3] at hm1
  cases hm1
  simp -dsimp only [Vm.G, List.lookup, Nat.reduceAdd, Nat.reduceBEq, Int.reduceBNe, Int.reduceBEq, Nat.reduceLeDiff, q67]
  refine call_one (S := vreadySpec) rfl _ GaL.rfl ⟨V.iv, V.ic, _, rfl, h1, ?_⟩
  simp -dsimp only [Vm.G, List.lookup, Nat.reduceAdd, Nat.reduceBEq, Int.reduceBNe, Int.reduceBEq, Nat.reduceLeDiff, q67, h1]
  refine clear_intro mt126 chg clk h2 ?_
  have k1 : (h.set V.ic (.map [] clk))[V.iv]? = some (vobj V.ic V.im) := by rw [List.getElem?_set_ne h4.1.symm]; exact h1
  have k2 : (h.set V.ic (.map [] clk))[V.ic]? = some (.map [] clk) := List.getElem?_set_self (get_lt h2)
  have k3 : (h.set V.ic (.map [] clk))[V.im]? = some (.map mem clk2) := by rw [List.getElem?_set_ne h4.2.2]; exact h3
  have hsame : Same h (h.set V.ic (.map [] clk)) [V.ic] := Same.set _ _ _
  generalize h.set V.ic (.map [] clk) = hh at k1 k2 k3 hsame ⊢
  simp -dsimp only [Vm.E, List.lookup, Nat.reduceAdd, Nat.reduceBEq, Int.reduceBNe, Int.reduceBEq, Bool.true_beq, Bool.false_beq, q67, k1]
  refine store_ptr _ k1 rfl rfl (by simp) ?_
  simp -dsimp only [Vm.G, List.lookup, Nat.reduceAdd, Nat.reduceBEq, Int.reduceBNe, Int.reduceBEq, Nat.reduceLeDiff, q67]
  rw [heap_set_same k1]
  refine hq hh ⟨[], clk, mem, clk2, k1, k2, k3, h4, ⟨by simp, h5.2⟩, ⟨⟨⟨.nil, .nil⟩, by simp⟩, h6.2⟩, hm2, by simpa using hm3, fun e he => ?_⟩ ⟨mem, clk2, k3, hm2, hm3⟩ hsame
  rcases he with he | he
  · simp at he
  · exact hk32 e (.inr he)
end Go.Proofs.Lx
/- Charges and pre-encumbrances, the reference's: ref29, ref31. -/
set_option linter.unusedSimpArgs false
set_option linter.unusedVariables false
namespace Go.Proofs.Lx
open Go.Vm
attribute [local irreducible] awpArr awpBin awpMake awpAppend awpCvX awpStrOf awpBinX awpSlice awpBS awpStore awpAlloc awpCopy awpIndex awpDraw awpIdxX awpFa awpField awpLookup awpUpdate awpDelete awpClear awpRange awpNext awpEntry awpBuild awpClearS awpIdxL awpTree appB awpIdxO eltA treeA
theorem does_rSmall : Does Tryz.prog 309 (predSpec smallP) := by
  refine does_of_awp good_nil Tryz.func309 rfl (by decide +kernel) (by decide +kernel) ?_
  rintro args h Q ⟨n, rfl, hq⟩
  refine ⟨by simp [Tryz.f309], ?_⟩
  rw [awpFunc_some (by rfl)]
  unfold smallP at hq
  simp -dsimp only [Vm.G, List.lookup, Nat.reduceAdd, Nat.reduceBEq, Int.reduceBNe, Int.reduceBEq, Nat.reduceLeDiff, q309]
  have h1 := Bool.eq_false_or_eq_true (decide (-1152921504606846976 ≤ n))
  rcases h1 with c1 | c1
  · rw [c1] at hq
    have c2 : decide (n ≥ -1152921504606846976) = true := c1
    simp -dsimp only [Vm.G, List.lookup, Nat.reduceAdd, Nat.reduceBEq, Int.reduceBNe, Int.reduceBEq, Nat.reduceLeDiff, q309, c2]
    exact hq
  · rw [c1] at hq
    have c2 : decide (n ≥ -1152921504606846976) = false := c1
    simp -dsimp only [Vm.G, List.lookup, Nat.reduceAdd, Nat.reduceBEq, Int.reduceBNe, Int.reduceBEq, Nat.reduceLeDiff, q309, c2]
    exact hq
theorem does_rFigure : Does Tryz.prog 263 (predSpec figureP) := by
  refine does_of_awp good_nil Tryz.func263 rfl (by decide +kernel) (by decide +kernel) ?_
  rintro args h Q ⟨n, rfl, hq⟩
  refine ⟨by simp [Tryz.f263], ?_⟩
  rw [awpFunc_some (by rfl)]
  unfold figureP at hq
  simp -dsimp only [Vm.G, List.lookup, Nat.reduceAdd, Nat.reduceBEq, Int.reduceBNe, Int.reduceBEq, Nat.reduceLeDiff, q263]
  have h1 := Bool.eq_false_or_eq_true (decide (0 ≤ n))
  rcases h1 with c1 | c1
  · rw [c1] at hq
    have c2 : decide (n ≥ 0) = true := c1
    simp -dsimp only [Vm.G, List.lookup, Nat.reduceAdd, Nat.reduceBEq, Int.reduceBNe, Int.reduceBEq, Nat.reduceLeDiff, q263, c2]
    exact hq
  · rw [c1] at hq
    have c2 : decide (n ≥ 0) = false := c1
    simp -dsimp only [Vm.G, List.lookup, Nat.reduceAdd, Nat.reduceBEq, Int.reduceBNe, Int.reduceBEq, Nat.reduceLeDiff, q263, c2]
    exact hq
theorem does_rAmt : Does Tryz.prog 153 (predSpec rightA) := by
  refine does_of_awp good_nil Tryz.func153 rfl (by decide +kernel) (by decide +kernel) ?_
  rintro args h Q ⟨n, rfl, hq⟩
  refine ⟨by simp [Tryz.f153], ?_⟩
  rw [awpFunc_some (by rfl)]
  unfold rightA at hq
  simp -dsimp only [Vm.G, List.lookup, Nat.reduceAdd, Nat.reduceBEq, Int.reduceBNe, Int.reduceBEq, Nat.reduceLeDiff, q153]
  have h1 := Bool.eq_false_or_eq_true (decide (1 ≤ n))
  rcases h1 with c1 | c1
  · rw [c1] at hq
    have c2 : decide (n ≥ 1) = true := c1
    simp -dsimp only [Vm.G, List.lookup, Nat.reduceAdd, Nat.reduceBEq, Int.reduceBNe, Int.reduceBEq, Nat.reduceLeDiff, q153, c2]
    exact hq
  · rw [c1] at hq
    have c2 : decide (n ≥ 1) = false := c1
    simp -dsimp only [Vm.G, List.lookup, Nat.reduceAdd, Nat.reduceBEq, Int.reduceBNe, Int.reduceBEq, Nat.reduceLeDiff, q153, c2]
    exact hq
theorem small_rng (n : Int) : smallP n = true ↔ -1152921504606846976 ≤ n ∧ n ≤ 1152921504606846976 := by simp [smallP]
set_option maxHeartbeats 1000000 in
theorem does_rAllows : Does Tryz.prog 264 allowsSpec := by
  refine does_of_awp (good_cons does_rtUsed (good_cons does_rSmall good_nil)) Tryz.func264 rfl (by decide +kernel) (by decide +kernel) ?_
  rintro args h Q ⟨n, more, rfl, hq⟩
  refine ⟨by simp [Tryz.f264], ?_⟩
  rw [awpFunc_some (by rfl)]
  unfold allowsOf at hq
  simp only [ndCells]
  simp -dsimp only [Vm.G, List.lookup, Nat.reduceAdd, Nat.reduceBEq, Int.reduceBNe, Int.reduceBEq, Nat.reduceLeDiff, q264]
  refine call_one (S := usedSpec) rfl _ GaL.rfl ⟨n, rfl, ?_⟩
  simp -dsimp only [Vm.G, List.lookup, Nat.reduceAdd, Nat.reduceBEq, Int.reduceBNe, Int.reduceBEq, Nat.reduceLeDiff, q264]
  have h1 := Bool.eq_false_or_eq_true (decide (more > 1152921504606846976))
  rcases h1 with c1 | c1
  · have d1 := of_decide_eq_true c1
    rw [if_pos (.inl d1)] at hq
    simp -dsimp only [Vm.G, List.lookup, Nat.reduceAdd, Nat.reduceBEq, Int.reduceBNe, Int.reduceBEq, Nat.reduceLeDiff, q264, c1]
    exact hq
  · have d1 := of_decide_eq_false c1
    simp -dsimp only [Vm.G, List.lookup, Nat.reduceAdd, Nat.reduceBEq, Int.reduceBNe, Int.reduceBEq, Nat.reduceLeDiff, q264, c1]
    refine call_one (S := predSpec smallP) rfl _ GaL.rfl ⟨usedOf n, rfl, ?_⟩
    have h2 := Bool.eq_false_or_eq_true (smallP (usedOf n))
    rcases h2 with c2 | c2
    · simp -dsimp only [Vm.G, List.lookup, Nat.reduceAdd, Nat.reduceBEq, Int.reduceBNe, Int.reduceBEq, Nat.reduceLeDiff, q264, c2]
      refine call_one (S := predSpec smallP) rfl _ GaL.rfl ⟨n.limit, rfl, ?_⟩
      have h3 := Bool.eq_false_or_eq_true (smallP n.limit)
      rcases h3 with c3 | c3
      · rw [if_neg (by rw [c2, c3]; simpa using d1)] at hq
        have b2 := (small_rng _).1 c2
        have b3 := (small_rng _).1 c3
        simp -dsimp only [Vm.G, List.lookup, Nat.reduceAdd, Nat.reduceBEq, Int.reduceBNe, Int.reduceBEq, Nat.reduceLeDiff, q264, c3]
        have h4 := Bool.eq_false_or_eq_true (decide (more < 1))
        rcases h4 with c4 | c4
        · rw [if_pos (.inl (of_decide_eq_true c4))] at hq
          simp -dsimp only [Vm.G, List.lookup, Nat.reduceAdd, Nat.reduceBEq, Int.reduceBNe, Int.reduceBEq, Nat.reduceLeDiff, q264, c4]
          exact hq
        · have d4 := of_decide_eq_false c4
          have e : decide (IntKind.i64.wrap (usedOf n + more) ≤ n.limit) = decide (more ≤ w64 (n.limit - usedOf n)) := by
            have w1 : IntKind.i64.wrap (usedOf n + more) = usedOf n + more := wrap_i64 (by omega) (by omega)
            have w2 : w64 (n.limit - usedOf n) = n.limit - usedOf n := wrap_i64 (by omega) (by omega)
            rw [w1, w2]
            by_cases h : more ≤ n.limit - usedOf n
            · rw [decide_eq_true h, decide_eq_true (by omega)]
            · rw [decide_eq_false h, decide_eq_false (by omega)]
          have h5 := Bool.eq_false_or_eq_true (decide (more ≤ w64 (n.limit - usedOf n)))
          rcases h5 with c5 | c5
          · rw [if_pos (.inr (of_decide_eq_true c5))] at hq
            rw [c5] at e
            simp -dsimp only [Vm.G, List.lookup, Nat.reduceAdd, Nat.reduceBEq, Int.reduceBNe, Int.reduceBEq, Nat.reduceLeDiff, q264, c4, e]
            exact hq
          · rw [if_neg (fun h => h.elim d4 (of_decide_eq_false c5))] at hq
            rw [c5] at e
            simp -dsimp only [Vm.G, List.lookup, Nat.reduceAdd, Nat.reduceBEq, Int.reduceBNe, Int.reduceBEq, Nat.reduceLeDiff, q264, c4, e]
            have h6 := Bool.eq_false_or_eq_true n.abs
            rcases h6 with c6 | c6
            · rw [c6] at hq
              simp -dsimp only [Vm.G, List.lookup, Nat.reduceAdd, Nat.reduceBEq, Int.reduceBNe, Int.reduceBEq, Nat.reduceLeDiff, q264, c6]
              exact hq
            · rw [c6] at hq
              simp -dsimp only [Vm.G, List.lookup, Nat.reduceAdd, Nat.reduceBEq, Int.reduceBNe, Int.reduceBEq, Nat.reduceLeDiff, q264, c6]
              exact hq
      · rw [if_pos (.inr (by rw [c3]; simp))] at hq
        simp -dsimp only [Vm.G, List.lookup, Nat.reduceAdd, Nat.reduceBEq, Int.reduceBNe, Int.reduceBEq, Nat.reduceLeDiff, q264, c3]
        exact hq
    · rw [if_pos (.inr (by rw [c2]; simp))] at hq
      simp -dsimp only [Vm.G, List.lookup, Nat.reduceAdd, Nat.reduceBEq, Int.reduceBNe, Int.reduceBEq, Nat.reduceLeDiff, q264, c2]
      exact hq
theorem max3_le (a b c : Int) : decide ((if (if a < b then b else a) < c then c else (if a < b then b else a)) > 9007199254740992) = !(decide (a ≤ 9007199254740992) && (decide (b ≤ 9007199254740992) && decide (c ≤ 9007199254740992))) := by
  by_cases h1 : a ≤ 9007199254740992 <;> by_cases h2 : b ≤ 9007199254740992 <;> by_cases h3 : c ≤ 9007199254740992 <;> simp only [h1, h2, h3, decide_true, decide_false, Bool.and_true, Bool.and_false, Bool.true_and, Bool.false_and, Bool.not_true, Bool.not_false, decide_eq_true_eq, decide_eq_false_iff_not] <;> (repeat' split) <;> omega
theorem min3_ge (a b c : Int) : decide ((if c < (if b < a then b else a) then c else (if b < a then b else a)) < -9007199254740992) = !(decide (-9007199254740992 ≤ a) && (decide (-9007199254740992 ≤ b) && decide (-9007199254740992 ≤ c))) := by
  by_cases h1 : -9007199254740992 ≤ a <;> by_cases h2 : -9007199254740992 ≤ b <;> by_cases h3 : -9007199254740992 ≤ c <;> simp only [h1, h2, h3, decide_true, decide_false, Bool.and_true, Bool.and_false, Bool.true_and, Bool.false_and, Bool.not_true, Bool.not_false, decide_eq_true_eq, decide_eq_false_iff_not] <;> (repeat' split) <;> omega
theorem chgRight_rng (c : Chg) : chgRight c = true ↔ (-9007199254740992 ≤ c.pre ∧ c.pre ≤ 9007199254740992) ∧ (-9007199254740992 ≤ c.enc ∧ c.enc ≤ 9007199254740992) ∧ (-9007199254740992 ≤ c.exp ∧ c.exp ≤ 9007199254740992) := by
  simp [chgRight, withinP, and_assoc]
theorem chargeRun_cons (c : Chg) (n : Nd) (r : List Nd) (f : Fun) (w : Bool) : chargeRun c (n :: r) f w = if (atOf c n).2.2 ≠ 0 then (f, false, (atOf c n).2.2) else chargeRun c r (upd f (ndK (atOf c n).1) (some (ndV (atOf c n).1))) (w || (atOf c n).2.1) := rfl
theorem at_nine {c : Chg} {n : Nd} (h : figs n = false ∨ figs (addC c n) = false) : (atOf c n).2.2 = 9 := by
  unfold atOf
  by_cases h1 : figs n = false
  · rw [if_pos h1]
  · rw [if_neg h1, if_pos (h.resolve_left h1)]
def rChargeSpec : Vm.Spec := fun args h Q => ∃ (R : RId) (f : Fun) (year id : Int) (c : Chg), args = [.ptr R.iv 0, .v (.int .i64 year), .v (.int .i64 id), .v (.int .i64 c.pre), .v (.int .i64 c.enc), .v (.int .i64 c.exp)] ∧ isRef h R f ∧ f.n ≤ 536870900 ∧
  ∀ h', isRef h' R (chargeOf f year id c).1 → Same h h' (rFoot R) → Q (.tup [.v (.bool (chargeOf f year id c).2.1), .v (.int .i64 (chargeOf f year id c).2.2)]) h'
set_option maxRecDepth 20000 in
set_option maxHeartbeats 4000000 in
theorem does_rCharge : Does Tryz.prog 228 rChargeSpec := by
  refine does_of_awp (good_cons does_rtPath (good_cons does_rFigure (good_cons does_rAllows (good_cons does_rtPut good_nil)))) Tryz.func228 rfl (by decide +kernel) (by decide +kernel) ?_
  rintro args h Q ⟨R, f, year, id, c, rfl, hR, hfn, hq⟩
  refine ⟨by simp [Tryz.f228], ?_⟩
  rw [awpFunc_some (by rfl)]
  unfold chargeOf at hq
  simp -dsimp only [Vm.G, List.lookup, Nat.reduceAdd, Nat.reduceBEq, Int.reduceBNe, Int.reduceBEq, Nat.reduceLeDiff, q228]
  refine call_one (S := rtPathSpec) rfl _ GaL.rfl ⟨R, f, year, id, rfl, hR, by omega, ?_⟩
  have hok := pathOf_ok f year 8 id
  have hlen := pathOf_length f year 8 id
  generalize pathOf f year 8 id = path at hok hlen hq ⊢
  simp -dsimp only [Vm.G, List.lookup, Nat.reduceAdd, Nat.reduceBEq, Int.reduceBNe, Int.reduceBEq, Nat.reduceLeDiff, q228]
  have h1 := Bool.eq_false_or_eq_true ((path.length : Int) == 0)
  rcases h1 with c1 | c1
  · have d1 : path.length = 0 := by have : (path.length : Int) = 0 := by simpa using c1
                                    omega
    rw [if_pos d1] at hq
    simp -dsimp only [Vm.G, List.lookup, Nat.reduceAdd, Nat.reduceBEq, Int.reduceBNe, Int.reduceBEq, Nat.reduceLeDiff, q228, c1]
    exact hq h hR (.refl _ _)
  · have d1 : ¬ path.length = 0 := by intro e; rw [e] at c1; simp at c1
    rw [if_neg d1] at hq
    have hmax := max3_le c.pre c.enc c.exp
    have hmin := min3_ge c.pre c.enc c.exp
    have hcr := chgRight_rng c
    simp -dsimp only [Vm.G, List.lookup, Nat.reduceAdd, Nat.reduceBEq, Int.reduceBNe, Int.reduceBEq, Nat.reduceLeDiff, q228, c1]
    have h2 := Bool.eq_false_or_eq_true (decide (c.pre ≤ 9007199254740992) && (decide (c.enc ≤ 9007199254740992) && decide (c.exp ≤ 9007199254740992)))
    rcases h2 with c2 | c2
    · rw [c2] at hmax
      have h3 := Bool.eq_false_or_eq_true (decide (-9007199254740992 ≤ c.pre) && (decide (-9007199254740992 ≤ c.enc) && decide (-9007199254740992 ≤ c.exp)))
      rcases h3 with c3 | c3
      · rw [c3] at hmin
        simp only [Bool.and_eq_true, decide_eq_true_eq] at c2 c3
        rw [if_neg (by rw [hcr.2 ⟨⟨c3.1, c2.1⟩, ⟨c3.2.1, c2.2.1⟩, ⟨c3.2.2, c2.2.2⟩⟩]; decide)] at hq
        clear hcr
        simp -dsimp only [Vm.G, List.lookup, Nat.reduceAdd, Nat.reduceBEq, Int.reduceBNe, Int.reduceBEq, Nat.reduceLeDiff, q228, hmax, hmin]
        refine awp_loop (fun m s h' => ∃ (i : Nat) (g : Fun) (w : Bool), i + m = path.length ∧ isRef h' R g ∧ g.n ≤ f.n + i ∧ Same h h' (rFoot R) ∧ chargeRun c (path.drop i) g w = chargeRun c path f false ∧ s = mk [(0, .ptr R.iv 0), (3, .v (.int .i64 c.pre)), (4, .v (.int .i64 c.enc)), (5, .v (.int .i64 c.exp)), (14, .own true 93 12 (path.map ndAv)), (15, .v (.bool w)), (16, .v (.int .i64 (i : Nat)))])
          path.length _ (le_mk _ ?_) ⟨0, f, false, by omega, hR, by omega, .refl _ _, rfl, rfl⟩ ?_
        · simp only [List.forall_mem_cons, List.not_mem_nil, false_imp_iff, implies_true, and_true]
          try simp -dsimp only [Vm.G, List.lookup, Nat.reduceAdd, Nat.reduceBEq, Int.reduceBNe, Int.reduceBEq, Nat.reduceLeDiff, q228]
          repeat' first | exact Fg.refl _ | exact Fg.nil _ _ _ (by decide) | refine And.intro ?_ ?_
        · clear hR hmax hmin
          rintro m s h' ⟨i, g, w, hi, hR, hgn, hsm, hp, rfl⟩
          simp -dsimp only [Vm.G, List.lookup, Nat.reduceAdd, Nat.reduceBEq, Int.reduceBNe, Int.reduceBEq, Nat.reduceLeDiff, q228]
          refine cond_intro (fun hcc => ?_) (fun hcc => ?_)
          · have hlt : i < path.length := by have := of_decide_eq_true hcc; omega
            have hw : IntKind.i64.wrap ((i : Int) + 1) = ((i + 1 : Nat) : Int) := by rw [wrap_i64 (by omega) (by omega)]; simp
            have hn := hok path[i] (List.getElem_mem hlt)
            have hgi : (path.map ndAv)[i]? = some (ndAv path[i]) := by rw [List.getElem?_map, List.getElem?_eq_getElem hlt]; rfl
            rw [List.drop_eq_getElem_cons hlt] at hp
            generalize path[i] = n at hn hgi hp
            rw [chargeRun_cons] at hp
            simp -dsimp only [Vm.G, List.lookup, Nat.reduceAdd, Nat.reduceBEq, Int.reduceBNe, Int.reduceBEq, Nat.reduceLeDiff, q228]
            refine idxO_intro (xs := path.map ndAv) (by omega) (by simp; omega) ?_
            simp -dsimp only [Vm.G, List.lookup, Nat.reduceAdd, Nat.reduceBEq, Int.reduceBNe, Int.reduceBEq, Nat.reduceLeDiff, q228, Int.toNat_natCast]
            refine eltA_intro (xs := path.map ndAv) hgi ?_
            simp only [ndAv, ndCells]
            simp -dsimp only [Vm.G, List.lookup, Nat.reduceAdd, Nat.reduceBEq, Int.reduceBNe, Int.reduceBEq, Nat.reduceLeDiff, q228, AV.cells, List.drop_zero]
            refine call_one (S := predSpec figureP) rfl _ GaL.rfl ⟨n.pre, rfl, ?_⟩
            have k1 := Bool.eq_false_or_eq_true (figureP n.pre)
            rcases k1 with k1 | k1
            · simp -dsimp only [Vm.G, List.lookup, Nat.reduceAdd, Nat.reduceBEq, Int.reduceBNe, Int.reduceBEq, Nat.reduceLeDiff, q228, k1]
              refine call_one (S := predSpec figureP) rfl _ GaL.rfl ⟨n.enc, rfl, ?_⟩
              have k2 := Bool.eq_false_or_eq_true (figureP n.enc)
              rcases k2 with k2 | k2
              · simp -dsimp only [Vm.G, List.lookup, Nat.reduceAdd, Nat.reduceBEq, Int.reduceBNe, Int.reduceBEq, Nat.reduceLeDiff, q228, k2]
                refine call_one (S := predSpec figureP) rfl _ GaL.rfl ⟨n.exp, rfl, ?_⟩
                have k3 := Bool.eq_false_or_eq_true (figureP n.exp)
                rcases k3 with k3 | k3
                · simp -dsimp only [Vm.G, List.lookup, Nat.reduceAdd, Nat.reduceBEq, Int.reduceBNe, Int.reduceBEq, Nat.reduceLeDiff, q228, k3]
                  refine call_one (S := predSpec figureP) rfl _ GaL.rfl ⟨(addC c n).pre, rfl, ?_⟩
                  have k4 := Bool.eq_false_or_eq_true (figureP (addC c n).pre)
                  rcases k4 with k4 | k4
                  · simp -dsimp only [Vm.G, List.lookup, Nat.reduceAdd, Nat.reduceBEq, Int.reduceBNe, Int.reduceBEq, Nat.reduceLeDiff, q228, k4]
                    refine call_one (S := predSpec figureP) rfl _ GaL.rfl ⟨(addC c n).enc, rfl, ?_⟩
                    have k5 := Bool.eq_false_or_eq_true (figureP (addC c n).enc)
                    rcases k5 with k5 | k5
                    · simp -dsimp only [Vm.G, List.lookup, Nat.reduceAdd, Nat.reduceBEq, Int.reduceBNe, Int.reduceBEq, Nat.reduceLeDiff, q228, k5]
                      refine call_one (S := predSpec figureP) rfl _ GaL.rfl ⟨(addC c n).exp, rfl, ?_⟩
                      have k6 := Bool.eq_false_or_eq_true (figureP (addC c n).exp)
                      rcases k6 with k6 | k6
                      · simp -dsimp only [Vm.G, List.lookup, Nat.reduceAdd, Nat.reduceBEq, Int.reduceBNe, Int.reduceBEq, Nat.reduceLeDiff, q228, k6]
                        have f1 : figs n = true := by simp only [figs, k1, k2, k3, Bool.and_self]
                        have f2 : figs (addC c n) = true := by simp only [figs, k4, k5, k6, Bool.and_self]
                        have hat : atOf c n = if (allowsOf n (chgSum c)).1 = false then (.zero, false, 11) else (addC c n, (allowsOf n (chgSum c)).2, 0) := by
                          unfold atOf
                          rw [if_neg (by rw [f1]; decide), if_neg (by rw [f2]; decide)]
                        rw [hat] at hp
                        clear hat
                        refine call_one (S := allowsSpec) rfl _ GaL.rfl ⟨n, chgSum c, rfl, ?_⟩
                        generalize allowsOf n (chgSum c) = q at hp ⊢
                        rcases q with ⟨qa, qb⟩
                        have h8 := Bool.eq_false_or_eq_true qa
                        rcases h8 with c8 | c8
                        · subst c8
                          have hp : chargeRun c (path.drop (i + 1)) (upd g (ndK (addC c n)) (some (ndV (addC c n)))) (w || qb) = chargeRun c path f false := hp
                          have han := addC_ok c n hn
                          have hnc : ndCells (addC c n) = [.v (.int .i64 n.year), .v (.int .i64 n.id), .v (.int .i64 n.parent), .v (.int .i64 n.fund), .v (.int .i64 n.obj), .v (.bool n.abs), .v (.int .i64 n.limit), .v (.int .i64 (IntKind.i64.wrap (n.pre + c.pre))), .v (.int .i64 (IntKind.i64.wrap (n.enc + c.enc))), .v (.int .i64 (IntKind.i64.wrap (n.exp + c.exp))), .v (.int .i64 n.lapsed), .v (.int .i64 n.carried)] := rfl
                          generalize addC c n = x at han hnc hp
                          simp -dsimp only [Vm.G, List.lookup, Nat.reduceAdd, Nat.reduceBEq, Int.reduceBNe, Int.reduceBEq, Nat.reduceLeDiff, q228]
                          cases w
                          · simp -dsimp only [Vm.G, List.lookup, Nat.reduceAdd, Nat.reduceBEq, Int.reduceBNe, Int.reduceBEq, Nat.reduceLeDiff, q228]
                            refine call_one (S := rtPutSpec) rfl _ GaL.rfl ⟨R, g, x, by rw [hnc], han, hR, by omega, fun h2 g1 g2 => ?_⟩
                            simp -dsimp only [Vm.G, List.lookup, Nat.reduceAdd, Nat.reduceBEq, Int.reduceBNe, Int.reduceBEq, Nat.reduceLeDiff, q228]
                            refine kept_intro ⟨path.length - (i + 1), by omega, _, le_mk [(0, .ptr R.iv 0), (3, .v (.int .i64 c.pre)), (4, .v (.int .i64 c.enc)), (5, .v (.int .i64 c.exp)), (14, .own true 93 12 (path.map ndAv)), (15, .v (.bool qb)), (16, .v (.int .i64 (i + 1 : Nat)))] ?_, i + 1, _, qb, by omega, g1, by show g.n + 1 ≤ _; omega, hsm.trans g2, hp, rfl⟩
                            simp only [List.forall_mem_cons, List.not_mem_nil, false_imp_iff, implies_true, and_true, hw]
                            try simp -dsimp only [Vm.G, List.lookup, Nat.reduceAdd, Nat.reduceBEq, Int.reduceBNe, Int.reduceBEq, Nat.reduceLeDiff, q228, hw]
                            repeat' first | exact Fg.refl _ | exact Fg.nil _ _ _ (by decide) | refine And.intro ?_ ?_
                          · simp -dsimp only [Vm.G, List.lookup, Nat.reduceAdd, Nat.reduceBEq, Int.reduceBNe, Int.reduceBEq, Nat.reduceLeDiff, q228]
                            refine call_one (S := rtPutSpec) rfl _ GaL.rfl ⟨R, g, x, by rw [hnc], han, hR, by omega, fun h2 g1 g2 => ?_⟩
                            simp -dsimp only [Vm.G, List.lookup, Nat.reduceAdd, Nat.reduceBEq, Int.reduceBNe, Int.reduceBEq, Nat.reduceLeDiff, q228]
                            refine kept_intro ⟨path.length - (i + 1), by omega, _, le_mk [(0, .ptr R.iv 0), (3, .v (.int .i64 c.pre)), (4, .v (.int .i64 c.enc)), (5, .v (.int .i64 c.exp)), (14, .own true 93 12 (path.map ndAv)), (15, .v (.bool true)), (16, .v (.int .i64 (i + 1 : Nat)))] ?_, i + 1, _, true, by omega, g1, by show g.n + 1 ≤ _; omega, hsm.trans g2, hp, rfl⟩
                            simp only [List.forall_mem_cons, List.not_mem_nil, false_imp_iff, implies_true, and_true, hw]
                            try simp -dsimp only [Vm.G, List.lookup, Nat.reduceAdd, Nat.reduceBEq, Int.reduceBNe, Int.reduceBEq, Nat.reduceLeDiff, q228, hw]
                            repeat' first | exact Fg.refl _ | exact Fg.nil _ _ _ (by decide) | refine And.intro ?_ ?_
                        · subst c8
                          have hp : (g, false, (11 : Int)) = chargeRun c path f false := hp
                          rw [← hp] at hq
                          simp -dsimp only [Vm.G, List.lookup, Nat.reduceAdd, Nat.reduceBEq, Int.reduceBNe, Int.reduceBEq, Nat.reduceLeDiff, q228]
                          exact hq h' hR hsm
                      · have h9 := at_nine (c := c) (n := n) (.inr (by simp only [figs, k6, Bool.and_false, Bool.false_and]))
                        have hp9 : (g, false, (9 : Int)) = chargeRun c path f false := by rw [← hp, h9]; rfl
                        rw [← hp9] at hq
                        simp -dsimp only [Vm.G, List.lookup, Nat.reduceAdd, Nat.reduceBEq, Int.reduceBNe, Int.reduceBEq, Nat.reduceLeDiff, q228, k6]
                        exact hq h' hR hsm
                    · have h9 := at_nine (c := c) (n := n) (.inr (by simp only [figs, k5, Bool.and_false, Bool.false_and]))
                      have hp9 : (g, false, (9 : Int)) = chargeRun c path f false := by rw [← hp, h9]; rfl
                      rw [← hp9] at hq
                      simp -dsimp only [Vm.G, List.lookup, Nat.reduceAdd, Nat.reduceBEq, Int.reduceBNe, Int.reduceBEq, Nat.reduceLeDiff, q228, k5]
                      exact hq h' hR hsm
                  · have h9 := at_nine (c := c) (n := n) (.inr (by simp only [figs, k4, Bool.and_false, Bool.false_and]))
                    have hp9 : (g, false, (9 : Int)) = chargeRun c path f false := by rw [← hp, h9]; rfl
                    rw [← hp9] at hq
                    simp -dsimp only [Vm.G, List.lookup, Nat.reduceAdd, Nat.reduceBEq, Int.reduceBNe, Int.reduceBEq, Nat.reduceLeDiff, q228, k4]
                    exact hq h' hR hsm
                · have h9 := at_nine (c := c) (n := n) (.inl (by simp only [figs, k3, Bool.and_false, Bool.false_and]))
                  have hp9 : (g, false, (9 : Int)) = chargeRun c path f false := by rw [← hp, h9]; rfl
                  rw [← hp9] at hq
                  simp -dsimp only [Vm.G, List.lookup, Nat.reduceAdd, Nat.reduceBEq, Int.reduceBNe, Int.reduceBEq, Nat.reduceLeDiff, q228, k3]
                  exact hq h' hR hsm
              · have h9 := at_nine (c := c) (n := n) (.inl (by simp only [figs, k2, Bool.and_false, Bool.false_and]))
                have hp9 : (g, false, (9 : Int)) = chargeRun c path f false := by rw [← hp, h9]; rfl
                rw [← hp9] at hq
                simp -dsimp only [Vm.G, List.lookup, Nat.reduceAdd, Nat.reduceBEq, Int.reduceBNe, Int.reduceBEq, Nat.reduceLeDiff, q228, k2]
                exact hq h' hR hsm
            · have h9 := at_nine (c := c) (n := n) (.inl (by simp only [figs, k1, Bool.and_false, Bool.false_and]))
              have hp9 : (g, false, (9 : Int)) = chargeRun c path f false := by rw [← hp, h9]; rfl
              rw [← hp9] at hq
              simp -dsimp only [Vm.G, List.lookup, Nat.reduceAdd, Nat.reduceBEq, Int.reduceBNe, Int.reduceBEq, Nat.reduceLeDiff, q228, k1]
              exact hq h' hR hsm
          · have hge : ¬ i < path.length := by have := of_decide_eq_false hcc; omega
            rw [List.drop_of_length_le (by omega)] at hp
            have hp : (g, w, (0 : Int)) = chargeRun c path f false := hp
            rw [← hp] at hq
            simp -dsimp only [Vm.G, List.lookup, Nat.reduceAdd, Nat.reduceBEq, Int.reduceBNe, Int.reduceBEq, Nat.reduceLeDiff, q228]
            exact hq h' hR hsm
      · rw [c3] at hmin
        rw [if_pos (by
          cases hb : chgRight c
          · rfl
          · have := hcr.1 hb
            simp only [decide_eq_true this.1.1, decide_eq_true this.2.1.1, decide_eq_true this.2.2.1] at c3
            cases c3)] at hq
        simp -dsimp only [Vm.G, List.lookup, Nat.reduceAdd, Nat.reduceBEq, Int.reduceBNe, Int.reduceBEq, Nat.reduceLeDiff, q228, hmax, hmin]
        exact hq h hR (.refl _ _)
    · rw [c2] at hmax
      rw [if_pos (by
        cases hb : chgRight c
        · rfl
        · have := hcr.1 hb
          simp only [decide_eq_true this.1.2, decide_eq_true this.2.1.2, decide_eq_true this.2.2.2] at c2
          cases c2)] at hq
      simp -dsimp only [Vm.G, List.lookup, Nat.reduceAdd, Nat.reduceBEq, Int.reduceBNe, Int.reduceBEq, Nat.reduceLeDiff, q228, hmax]
      exact hq h hR (.refl _ _)
set_option maxHeartbeats 1000000 in
theorem does_rPreCheck : Does Tryz.prog 73 preCheckSpec := by
  refine does_of_awp (good_cons does_rAmt good_nil) Tryz.func73 rfl (by decide +kernel) (by decide +kernel) ?_
  rintro args h Q ⟨l, hl, rfl, hq⟩
  refine ⟨by simp [Tryz.f73], ?_⟩
  rw [awpFunc_some (by rfl)]
  unfold preCheck at hq
  simp -dsimp only [Vm.G, List.lookup, Nat.reduceAdd, Nat.reduceBEq, Int.reduceBNe, Int.reduceBEq, Nat.reduceLeDiff, q73]
  have h1 := Bool.eq_false_or_eq_true (decide ((l.length : Int) < 1))
  rcases h1 with c1 | c1
  · have d1 := of_decide_eq_true c1
    rw [if_pos (.inl (by omega))] at hq
    simp -dsimp only [Vm.G, List.lookup, Nat.reduceAdd, Nat.reduceBEq, Int.reduceBNe, Int.reduceBEq, Nat.reduceLeDiff, q73, c1]
    exact hq
  · have d1 := of_decide_eq_false c1
    simp -dsimp only [Vm.G, List.lookup, Nat.reduceAdd, Nat.reduceBEq, Int.reduceBNe, Int.reduceBEq, Nat.reduceLeDiff, q73, c1]
    have h2 := Bool.eq_false_or_eq_true (decide ((l.length : Int) > 6))
    rcases h2 with c2 | c2
    · have d2 := of_decide_eq_true c2
      rw [if_pos (.inr (.inl (by omega)))] at hq
      simp -dsimp only [Vm.G, List.lookup, Nat.reduceAdd, Nat.reduceBEq, Int.reduceBNe, Int.reduceBEq, Nat.reduceLeDiff, q73, c2]
      exact hq
    · have d2 := of_decide_eq_false c2
      simp -dsimp only [Vm.G, List.lookup, Nat.reduceAdd, Nat.reduceBEq, Int.reduceBNe, Int.reduceBEq, Nat.reduceLeDiff, q73, c2]
      refine awp_loop (fun m s h' => ∃ i : Nat, i + m = l.length ∧ h' = h ∧ (∀ j (hj : j < l.length), j < i → wrongL l[j] = false) ∧ s = mk [(0, .sl 4 (l.map lnAv)), (3, .v (.int .i64 (i : Nat)))])
        l.length _ (le_mk _ ?_) ⟨0, by omega, rfl, fun _ _ hj => by omega, rfl⟩ ?_
      · simp only [List.forall_mem_cons, List.not_mem_nil, false_imp_iff, implies_true, and_true]
        try simp -dsimp only [Vm.G, List.lookup, Nat.reduceAdd, Nat.reduceBEq, Int.reduceBNe, Int.reduceBEq, Nat.reduceLeDiff, q73]
        repeat' first | exact Fg.refl _ | exact Fg.nil _ _ _ (by decide) | refine And.intro ?_ ?_
      · rintro m s h' ⟨i, hi, rfl, hb, rfl⟩
        simp -dsimp only [Vm.G, List.lookup, Nat.reduceAdd, Nat.reduceBEq, Int.reduceBNe, Int.reduceBEq, Nat.reduceLeDiff, q73]
        refine cond_intro (fun hcc => ?_) (fun hcc => ?_)
        · have hlt : i < l.length := by have := of_decide_eq_true hcc; omega
          have hw : IntKind.i64.wrap ((i : Int) + 1) = ((i + 1 : Nat) : Int) := by rw [wrap_i64 (by omega) (by omega)]; simp
          have hxe : ∃ x, l[i] = x := ⟨_, rfl⟩
          rcases hxe with ⟨x, hx⟩
          simp -dsimp only [Vm.G, List.lookup, Nat.reduceAdd, Nat.reduceBEq, Int.reduceBNe, Int.reduceBEq, Nat.reduceLeDiff, q73]
          refine idx_map lnAv l i hlt ?_
          simp only [hx, lnAv, lnCells]
          simp -dsimp only [Vm.G, List.lookup, Nat.reduceAdd, Nat.reduceBEq, Int.reduceBNe, Int.reduceBEq, Nat.reduceLeDiff, q73, AV.cells]
          refine call_one (S := predSpec rightA) rfl _ GaL.rfl ⟨x.amt, rfl, ?_⟩
          have h3 := Bool.eq_false_or_eq_true (rightA x.amt)
          rcases h3 with c3 | c3
          · have hwx : wrongL x = false := by unfold wrongL; rw [c3]; rfl
            simp -dsimp only [Vm.G, List.lookup, Nat.reduceAdd, Nat.reduceBEq, Int.reduceBNe, Int.reduceBEq, Nat.reduceLeDiff, q73, c3]
            refine kept_intro ⟨l.length - (i + 1), by omega, _, le_mk [(0, .sl 4 (l.map lnAv)), (3, .v (.int .i64 (i + 1 : Nat)))] ?_, i + 1, by omega, rfl, fun j hj hj2 => ?_, rfl⟩
            · simp only [List.forall_mem_cons, List.not_mem_nil, false_imp_iff, implies_true, and_true, hw]
              try simp -dsimp only [Vm.G, List.lookup, Nat.reduceAdd, Nat.reduceBEq, Int.reduceBNe, Int.reduceBEq, Nat.reduceLeDiff, q73, hw]
              repeat' first | exact Fg.refl _ | exact Fg.nil _ _ _ (by decide) | refine And.intro ?_ ?_
            · by_cases hji : j = i
              · subst hji; rw [hx]; exact hwx
              · exact hb j hj (by omega)
          · have hwx : wrongL x = true := by unfold wrongL; rw [c3]; rfl
            rw [if_pos (.inr (.inr (List.any_eq_true.2 ⟨x, hx ▸ List.getElem_mem hlt, hwx⟩)))] at hq
            simp -dsimp only [Vm.G, List.lookup, Nat.reduceAdd, Nat.reduceBEq, Int.reduceBNe, Int.reduceBEq, Nat.reduceLeDiff, q73, c3]
            exact hq
        · have hge : ¬ i < l.length := by have := of_decide_eq_false hcc; omega
          have hany : l.any wrongL = false := by
            cases ha : l.any wrongL
            · rfl
            · obtain ⟨x, hxm, hwx⟩ := List.any_eq_true.1 ha
              obtain ⟨j, hj, rfl⟩ := List.getElem_of_mem hxm
              rw [hb j hj (by omega)] at hwx; cases hwx
          rw [if_neg (fun h => h.elim (fun h => by omega) fun h => h.elim (fun h => by omega) fun h => by rw [hany] at h; cases h)] at hq
          simp -dsimp only [Vm.G, List.lookup, Nat.reduceAdd, Nat.reduceBEq, Int.reduceBNe, Int.reduceBEq, Nat.reduceLeDiff, q73]
          exact hq
def firstOf (f : Fun) (year : Int) (l : List Ln) : Int := if checkY f year ≠ 0 then checkY f year else preCheck l
def rFirstSpec : Vm.Spec := fun args h Q => ∃ (R : RId) (f : Fun) (year : Int) (l : List Ln), l.length ≤ 9223372036854775807 ∧ args = [.ptr R.iv 0, .v (.int .i64 year), .sl 4 (l.map lnAv)] ∧ isRef h R f ∧ f.n ≤ 536870912 ∧ Q (.v (.int .i64 (firstOf f year l))) h
theorem does_rFirst : Does Tryz.prog 148 rFirstSpec := by
  refine does_of_awp (good_cons does_rCheck (good_cons does_rPreCheck good_nil)) Tryz.func148 rfl (by decide +kernel) (by decide +kernel) ?_
  rintro args h Q ⟨R, f, year, l, hl, rfl, hR, hfn, hq⟩
  refine ⟨by simp [Tryz.f148], ?_⟩
  rw [awpFunc_some (by rfl)]
  unfold firstOf at hq
  simp -dsimp only [Vm.G, List.lookup, Nat.reduceAdd, Nat.reduceBEq, Int.reduceBNe, Int.reduceBEq, Nat.reduceLeDiff, q148]
  refine call_one (S := rCheckSpec) rfl _ GaL.rfl ⟨R, f, year, rfl, hR, hfn, ?_⟩
  generalize checkY f year = e at hq ⊢
  simp -dsimp only [Vm.G, List.lookup, Nat.reduceAdd, Nat.reduceBEq, Int.reduceBNe, Int.reduceBEq, Nat.reduceLeDiff, q148]
  have h1 := Bool.eq_false_or_eq_true (e != 0)
  rcases h1 with c1 | c1
  · rw [if_pos (by simpa using c1)] at hq
    simp -dsimp only [Vm.G, List.lookup, Nat.reduceAdd, Nat.reduceBEq, Int.reduceBNe, Int.reduceBEq, Nat.reduceLeDiff, q148, c1]
    exact hq
  · rw [if_neg (by simpa using c1)] at hq
    simp -dsimp only [Vm.G, List.lookup, Nat.reduceAdd, Nat.reduceBEq, Int.reduceBNe, Int.reduceBEq, Nat.reduceLeDiff, q148, c1]
    refine call_one (S := preCheckSpec) rfl _ GaL.rfl ⟨l, hl, rfl, ?_⟩
    simp -dsimp only [Vm.G, List.lookup, Nat.reduceAdd, Nat.reduceBEq, Int.reduceBNe, Int.reduceBEq, Nat.reduceLeDiff, q148]
    exact hq
theorem does_rLines : Does Tryz.prog 149 linesSpec := by
  refine does_of_awp good_nil Tryz.func149 rfl (by decide +kernel) (by decide +kernel) ?_
  rintro args h Q ⟨l, hl, rfl, hq⟩
  refine ⟨by simp [Tryz.f149], ?_⟩
  rw [awpFunc_some (by rfl)]
  simp -dsimp only [Vm.G, List.lookup, Nat.reduceAdd, Nat.reduceBEq, Int.reduceBNe, Int.reduceBEq, Nat.reduceLeDiff, q149]
  refine awp_loop (fun m s h' => ∃ i : Nat, i + m = l.length ∧ h' = h ∧ s = mk [(0, .sl 4 (l.map lnAv)), (3, .own true 62 4 ((ownL (l.take i)).map dlAv)), (4, .v (.int .i64 (i : Nat)))])
    l.length _ (le_mk _ ?_) ⟨0, by omega, rfl, rfl⟩ ?_
  · simp only [List.forall_mem_cons, List.not_mem_nil, false_imp_iff, implies_true, and_true]
    try simp -dsimp only [Vm.G, List.lookup, Nat.reduceAdd, Nat.reduceBEq, Int.reduceBNe, Int.reduceBEq, Nat.reduceLeDiff, q149]
    repeat' first | exact Fg.refl _ | exact Fg.nil _ _ _ (by decide) | refine And.intro ?_ ?_
  · rintro m s h' ⟨i, hi, rfl, rfl⟩
    simp -dsimp only [Vm.G, List.lookup, Nat.reduceAdd, Nat.reduceBEq, Int.reduceBNe, Int.reduceBEq, Nat.reduceLeDiff, q149]
    refine cond_intro (fun hcc => ?_) (fun hcc => ?_)
    · have hlt : i < l.length := by have := of_decide_eq_true hcc; omega
      have hw : IntKind.i64.wrap ((i : Int) + 1) = ((i + 1 : Nat) : Int) := by rw [wrap_i64 (by omega) (by omega)]; simp
      have est : ownL (l.take (i + 1)) = ownL (l.take i) ++ [⟨l[i].node, l[i].amt, 0, 0⟩] := by
        unfold ownL
        rw [List.take_succ_eq_append_getElem hlt, List.map_append]; rfl
      have hol : (ownL (l.take i)).length ≤ i := by unfold ownL; rw [List.length_map, List.length_take]; omega
      have hxe : ∃ x, l[i] = x := ⟨_, rfl⟩
      rcases hxe with ⟨x, hx⟩
      rw [hx] at est
      simp -dsimp only [Vm.G, List.lookup, Nat.reduceAdd, Nat.reduceBEq, Int.reduceBNe, Int.reduceBEq, Nat.reduceLeDiff, q149]
      refine draw_cont [] (.take 0 (.take 1 (.take 2 (.take 3 (.take 4 (.take 5 (.take 6 (.take 7 (.take 8 (.take 9 (.take 10 (.alt 11 (.alt 12 (.alt 13 (.alt 14 (.done) .stop) .stop) .stop) .stop)))))))))))) (fun s h2 => h2 = h' ∧ s 0 = .sl 4 (l.map lnAv) ∧ s 3 = .own true 62 4 ((ownL (l.take (i + 1))).map dlAv) ∧ s 4 = .v (.int .i64 (i : Nat))) (by kernel_rfl) (by kernel_rfl) (by kernel_rfl) (by decide) ?_ ?_
      · simp -dsimp only [Vm.G, List.lookup, Nat.reduceAdd, Nat.reduceBEq, Int.reduceBNe, Int.reduceBEq, Nat.reduceLeDiff, q149]
        refine idx_map lnAv l i hlt ?_
        simp only [hx, lnAv, lnCells]
        simp -dsimp only [Vm.G, List.lookup, Nat.reduceAdd, Nat.reduceBEq, Int.reduceBNe, Int.reduceBEq, Nat.reduceLeDiff, q149, AV.cells]
        refine idx_map lnAv l i hlt ?_
        simp only [hx, lnAv, lnCells]
        simp -dsimp only [Vm.G, List.lookup, Nat.reduceAdd, Nat.reduceBEq, Int.reduceBNe, Int.reduceBEq, Nat.reduceLeDiff, q149, AV.cells]
        refine bs_intro zr62 (by decide) (by decide) rfl rfl (by simp [solid, AV.cells]) ?_
        simp -dsimp only [Vm.G, List.lookup, Nat.reduceAdd, Nat.reduceBEq, Int.reduceBNe, Int.reduceBEq, Nat.reduceLeDiff, q149]
        refine app_sl Tryz.underlying55 (by simp [AV.cells]) (by simp only [List.length_map, List.length_cons, List.length_nil]; omega) ?_
        simp -dsimp only [Vm.G, List.lookup, Nat.reduceAdd, Nat.reduceBEq, Int.reduceBNe, Int.reduceBEq, Nat.reduceLeDiff, q149]
        simp only [est, List.map_append, List.map_cons, List.map_nil, dlAv, dlCells]
        repeat' first | rfl | exact True.intro | refine And.intro ?_ ?_
      · rintro s h2 ⟨rfl, e0, e3, e4⟩
        simp -dsimp only [Vm.G, List.lookup, Nat.reduceAdd, Nat.reduceBEq, Int.reduceBNe, Int.reduceBEq, Nat.reduceLeDiff, q149, e0, e3, e4]
        refine kept_intro ⟨l.length - (i + 1), by omega, _, le_mk [(0, .sl 4 (l.map lnAv)), (3, .own true 62 4 ((ownL (l.take (i + 1))).map dlAv)), (4, .v (.int .i64 (i + 1 : Nat)))] ?_, i + 1, by omega, rfl, rfl⟩
        simp only [List.forall_mem_cons, List.not_mem_nil, false_imp_iff, implies_true, and_true, hw, e0, e3, e4]
        try simp -dsimp only [Vm.G, List.lookup, Nat.reduceAdd, Nat.reduceBEq, Int.reduceBNe, Int.reduceBEq, Nat.reduceLeDiff, q149, hw, e0, e3, e4]
        repeat' first | exact Fg.refl _ | exact Fg.nil _ _ _ (by decide) | refine And.intro ?_ ?_
    · have hge : ¬ i < l.length := by have := of_decide_eq_false hcc; omega
      simp -dsimp only [Vm.G, List.lookup, Nat.reduceAdd, Nat.reduceBEq, Int.reduceBNe, Int.reduceBEq, Nat.reduceLeDiff, q149]
      rw [List.take_of_length_le (by omega)]
      exact hq
/-- So many times the original. -/
def mkR (p e x : Int) (d : Dl) : Chg := ⟨w64 (p * d.orig), w64 (e * d.orig), w64 (x * d.orig)⟩
def rChargeLSpec : Vm.Spec := fun args h Q => ∃ (R : RId) (f : Fun) (year : Int) (l : List Dl) (p e x : Int), l.length ≤ 1048576 ∧ args = [.ptr R.iv 0, .v (.int .i64 year), .sl 4 (l.map dlAv), .v (.int .i64 p), .v (.int .i64 e), .v (.int .i64 x)] ∧ isRef h R f ∧ f.n ≤ 268435456 ∧
  ∀ h', isRef h' R (chargeG (mkR p e x) year l f false).1 → Same h h' (rFoot R) → Q (.tup [.v (.bool (chargeG (mkR p e x) year l f false).2.1), .v (.int .i64 (chargeG (mkR p e x) year l f false).2.2)]) h'
attribute [local irreducible] chargeOf chargeG docsPut
set_option maxHeartbeats 1000000 in
theorem does_rChargeL : Does Tryz.prog 150 rChargeLSpec := by
  refine does_of_awp (good_cons does_rCharge good_nil) Tryz.func150 rfl (by decide +kernel) (by decide +kernel) ?_
  rintro args h Q ⟨R, f, year, l, p, e, x, hl, rfl, hR, hfn, hq⟩
  refine ⟨by simp [Tryz.f150], ?_⟩
  rw [awpFunc_some (by rfl)]
  simp -dsimp only [Vm.G, List.lookup, Nat.reduceAdd, Nat.reduceBEq, Int.reduceBNe, Int.reduceBEq, Nat.reduceLeDiff, q150]
  refine awp_loop (fun m s h' => ∃ (i : Nat) (g : Fun) (w : Bool), i + m = l.length ∧ isRef h' R g ∧ g.n ≤ f.n + 8 * i ∧ Same h h' (rFoot R) ∧ chargeG (mkR p e x) year (l.drop i) g w = chargeG (mkR p e x) year l f false ∧ s = mk [(0, .ptr R.iv 0), (1, .v (.int .i64 year)), (2, .sl 4 (l.map dlAv)), (3, .v (.int .i64 p)), (4, .v (.int .i64 e)), (5, .v (.int .i64 x)), (14, .v (.bool w)), (15, .v (.int .i64 (i : Nat)))])
    l.length _ (le_mk _ ?_) ⟨0, f, false, by omega, hR, by omega, .refl _ _, rfl, rfl⟩ ?_
  · simp only [List.forall_mem_cons, List.not_mem_nil, false_imp_iff, implies_true, and_true]
    try simp -dsimp only [Vm.G, List.lookup, Nat.reduceAdd, Nat.reduceBEq, Int.reduceBNe, Int.reduceBEq, Nat.reduceLeDiff, q150]
    repeat' first | exact Fg.refl _ | exact Fg.nil _ _ _ (by decide) | refine And.intro ?_ ?_
  · clear hR
    rintro m s h' ⟨i, g, w, hi, hR, hgn, hsm, hp, rfl⟩
    simp -dsimp only [Vm.G, List.lookup, Nat.reduceAdd, Nat.reduceBEq, Int.reduceBNe, Int.reduceBEq, Nat.reduceLeDiff, q150]
    refine cond_intro (fun hcc => ?_) (fun hcc => ?_)
    · have hlt : i < l.length := by have := of_decide_eq_true hcc; omega
      have hw : IntKind.i64.wrap ((i : Int) + 1) = ((i + 1 : Nat) : Int) := by rw [wrap_i64 (by omega) (by omega)]; simp
      rw [List.drop_eq_getElem_cons hlt] at hp
      have hxe : ∃ y, l[i] = y := ⟨_, rfl⟩
      rcases hxe with ⟨y, hy⟩
      rw [hy] at hp
      have hcn := chargeOf_n g year y.node (mkR p e x y)
      simp -dsimp only [Vm.G, List.lookup, Nat.reduceAdd, Nat.reduceBEq, Int.reduceBNe, Int.reduceBEq, Nat.reduceLeDiff, q150]
      refine idx_map dlAv l i hlt ?_
      simp only [hy, dlAv, dlCells]
      simp -dsimp only [Vm.G, List.lookup, Nat.reduceAdd, Nat.reduceBEq, Int.reduceBNe, Int.reduceBEq, Nat.reduceLeDiff, q150, AV.cells]
      refine idx_map dlAv l i hlt ?_
      simp only [hy, dlAv, dlCells]
      simp -dsimp only [Vm.G, List.lookup, Nat.reduceAdd, Nat.reduceBEq, Int.reduceBNe, Int.reduceBEq, Nat.reduceLeDiff, q150, AV.cells]
      refine call_one (S := rChargeSpec) rfl _ GaL.rfl ⟨R, g, year, y.node, mkR p e x y, rfl, hR, by omega, fun h2 g1 g2 => ?_⟩
      rw [chargeG_cons] at hp
      generalize chargeOf g year y.node (mkR p e x y) = q at hp g1 hcn ⊢
      rcases q with ⟨qf, qw, qe⟩
      simp only at hp g1 hcn ⊢
      simp -dsimp only [Vm.G, List.lookup, Nat.reduceAdd, Nat.reduceBEq, Int.reduceBNe, Int.reduceBEq, Nat.reduceLeDiff, q150]
      have h1 := Bool.eq_false_or_eq_true (qe != 0)
      rcases h1 with c1 | c1
      · have d1 : qe ≠ 0 := by simpa using c1
        rw [if_pos d1] at hp
        rw [← hp] at hq
        simp -dsimp only [Vm.G, List.lookup, Nat.reduceAdd, Nat.reduceBEq, Int.reduceBNe, Int.reduceBEq, Nat.reduceLeDiff, q150, c1]
        exact hq h2 g1 (hsm.trans g2)
      · have d1 : ¬ qe ≠ 0 := by simpa using c1
        rw [if_neg d1] at hp
        simp -dsimp only [Vm.G, List.lookup, Nat.reduceAdd, Nat.reduceBEq, Int.reduceBNe, Int.reduceBEq, Nat.reduceLeDiff, q150, c1]
        cases w
        · simp -dsimp only [Vm.G, List.lookup, Nat.reduceAdd, Nat.reduceBEq, Int.reduceBNe, Int.reduceBEq, Nat.reduceLeDiff, q150]
          refine kept_intro ⟨l.length - (i + 1), by omega, _, le_mk [(0, .ptr R.iv 0), (1, .v (.int .i64 year)), (2, .sl 4 (l.map dlAv)), (3, .v (.int .i64 p)), (4, .v (.int .i64 e)), (5, .v (.int .i64 x)), (14, .v (.bool qw)), (15, .v (.int .i64 (i + 1 : Nat)))] ?_, i + 1, qf, qw, by omega, g1, by omega, hsm.trans g2, by simpa using hp, rfl⟩
          simp only [List.forall_mem_cons, List.not_mem_nil, false_imp_iff, implies_true, and_true, hw]
          try simp -dsimp only [Vm.G, List.lookup, Nat.reduceAdd, Nat.reduceBEq, Int.reduceBNe, Int.reduceBEq, Nat.reduceLeDiff, q150, hw]
          repeat' first | exact Fg.refl _ | exact Fg.nil _ _ _ (by decide) | refine And.intro ?_ ?_
        · simp -dsimp only [Vm.G, List.lookup, Nat.reduceAdd, Nat.reduceBEq, Int.reduceBNe, Int.reduceBEq, Nat.reduceLeDiff, q150]
          refine kept_intro ⟨l.length - (i + 1), by omega, _, le_mk [(0, .ptr R.iv 0), (1, .v (.int .i64 year)), (2, .sl 4 (l.map dlAv)), (3, .v (.int .i64 p)), (4, .v (.int .i64 e)), (5, .v (.int .i64 x)), (14, .v (.bool true)), (15, .v (.int .i64 (i + 1 : Nat)))] ?_, i + 1, qf, true, by omega, g1, by omega, hsm.trans g2, by simpa using hp, rfl⟩
          simp only [List.forall_mem_cons, List.not_mem_nil, false_imp_iff, implies_true, and_true, hw]
          try simp -dsimp only [Vm.G, List.lookup, Nat.reduceAdd, Nat.reduceBEq, Int.reduceBNe, Int.reduceBEq, Nat.reduceLeDiff, q150, hw]
          repeat' first | exact Fg.refl _ | exact Fg.nil _ _ _ (by decide) | refine And.intro ?_ ?_
    · have hge : ¬ i < l.length := by have := of_decide_eq_false hcc; omega
      rw [List.drop_of_length_le (by omega)] at hp
      have hp : (g, w, (0 : Int)) = chargeG (mkR p e x) year l f false := by rw [← hp]; simp only [chargeG]
      rw [← hp] at hq
      simp -dsimp only [Vm.G, List.lookup, Nat.reduceAdd, Nat.reduceBEq, Int.reduceBNe, Int.reduceBEq, Nat.reduceLeDiff, q150]
      exact hq h' hR hsm
theorem w64_i64 {n : Int} (h : I64 n) : w64 n = n := wrap_i64 h.1 h.2
theorem mkR_pre {d : Dl} (h : d.ok) : mkR 1 0 0 d = ⟨d.orig, 0, 0⟩ := by
  unfold mkR
  rw [Int.one_mul, Int.zero_mul, w64_i64 h.2.1]
  rfl
def rPreNewSpec : Vm.Spec := fun args h Q => ∃ (R : RId) (f : Fun) (year : Int) (l : List Ln), I64 year ∧ l.length ≤ 1073741824 ∧ (∀ x ∈ l, x.ok) ∧ args = [.ptr R.iv 0, .v (.int .i64 year), .sl 4 (l.map lnAv)] ∧ isRef h R f ∧ f.n ≤ 134217728 ∧
  ∀ h', isRef h' R (preNew f year l).1 → Same h h' (rFoot R) → Q (.tup [.v (.int .i64 (preNew f year l).2.1), .v (.bool (preNew f year l).2.2.1), .v (.int .i64 (preNew f year l).2.2.2)]) h'
theorem docsPut_no {f : Fun} {d : Dc} {l : List Dl} (h : (docsPut f d l).2.2 ≠ 0) : (docsPut f d l).2.1 = 0 := by
  revert h
  unfold docsPut
  split
  · intro _; rfl
  · split
    · intro _; rfl
    · intro h; exact absurd rfl h
set_option maxHeartbeats 1000000 in
theorem does_rPreNew : Does Tryz.prog 71 rPreNewSpec := by
  refine does_of_awp (good_cons does_rFirst (good_cons does_rLines (good_cons does_rChargeL (good_cons does_rDocsPut good_nil)))) Tryz.func71 rfl (by decide +kernel) (by decide +kernel) ?_
  rintro args h Q ⟨R, f, year, l, hy, hl, hok, rfl, hR, hfn, hq⟩
  refine ⟨by simp [Tryz.f71], ?_⟩
  rw [awpFunc_some (by rfl)]
  unfold preNew at hq
  simp -dsimp only [Vm.G, List.lookup, Nat.reduceAdd, Nat.reduceBEq, Int.reduceBNe, Int.reduceBEq, Nat.reduceLeDiff, q71]
  refine call_one (S := rFirstSpec) rfl _ GaL.rfl ⟨R, f, year, l, by omega, rfl, hR, by omega, ?_⟩
  have hfo : firstOf f year l = if checkY f year ≠ 0 then checkY f year else preCheck l := rfl
  generalize firstOf f year l = e at hfo ⊢
  simp -dsimp only [Vm.G, List.lookup, Nat.reduceAdd, Nat.reduceBEq, Int.reduceBNe, Int.reduceBEq, Nat.reduceLeDiff, q71]
  by_cases d1 : checkY f year ≠ 0
  · simp only [if_pos d1] at hq hfo
    have c1 : (e != 0) = true := by rw [hfo]; simpa using d1
    rw [← hfo] at hq
    simp -dsimp only [Vm.G, List.lookup, Nat.reduceAdd, Nat.reduceBEq, Int.reduceBNe, Int.reduceBEq, Nat.reduceLeDiff, q71, c1]
    exact hq h hR (.refl _ _)
  · simp only [if_neg d1] at hq hfo
    by_cases d2 : preCheck l ≠ 0
    · simp only [if_pos d2] at hq
      have c1 : (e != 0) = true := by rw [hfo]; simpa using d2
      rw [← hfo] at hq
      simp -dsimp only [Vm.G, List.lookup, Nat.reduceAdd, Nat.reduceBEq, Int.reduceBNe, Int.reduceBEq, Nat.reduceLeDiff, q71, c1]
      exact hq h hR (.refl _ _)
    · simp only [if_neg d2] at hq
      have c1 : (e != 0) = false := by rw [hfo]; simpa using d2
      have hl6 := preCheck_len d2
      have hol := ownL_length l
      have hook := ownL_ok hok
      have hG : chargeL year (ownL l) f false = chargeG (mkR 1 0 0) year (ownL l) f false := by
        rw [chargeL_G]
        exact chargeG_congr year _ _ _ fun x hx => (mkR_pre (hook x hx)).symm
      rw [hG] at hq
      have hcn := chargeG_n (mkR 1 0 0) year (ownL l) f false
      clear hG
      simp -dsimp only [Vm.G, List.lookup, Nat.reduceAdd, Nat.reduceBEq, Int.reduceBNe, Int.reduceBEq, Nat.reduceLeDiff, q71, c1]
      refine call_one (S := linesSpec) rfl _ GaL.rfl ⟨l, hl, rfl, ?_⟩
      simp -dsimp only [Vm.G, List.lookup, Nat.reduceAdd, Nat.reduceBEq, Int.reduceBNe, Int.reduceBEq, Nat.reduceLeDiff, q71]
      refine call_one (S := rChargeLSpec) rfl _ GaL.rfl ⟨R, f, year, ownL l, 1, 0, 0, by omega, rfl, hR, by omega, fun h1 g1 g2 => ?_⟩
      generalize chargeG (mkR 1 0 0) year (ownL l) f false = q at hq g1 hcn ⊢
      rcases q with ⟨qf, qw, qe⟩
      simp only at hq g1 hcn ⊢
      simp -dsimp only [Vm.G, List.lookup, Nat.reduceAdd, Nat.reduceBEq, Int.reduceBNe, Int.reduceBEq, Nat.reduceLeDiff, q71]
      have h3 := Bool.eq_false_or_eq_true (qe != 0)
      rcases h3 with c3 | c3
      · have d3 : qe ≠ 0 := by simpa using c3
        simp only [if_pos d3] at hq
        simp -dsimp only [Vm.G, List.lookup, Nat.reduceAdd, Nat.reduceBEq, Int.reduceBNe, Int.reduceBEq, Nat.reduceLeDiff, q71, c3]
        exact hq h1 g1 g2
      · have d3 : ¬ qe ≠ 0 := by simpa using c3
        simp only [if_neg d3] at hq
        have z0 : I64 0 := by unfold I64; omega
        have z1 : I64 1 := by unfold I64; omega
        simp -dsimp only [Vm.G, List.lookup, Nat.reduceAdd, Nat.reduceBEq, Int.reduceBNe, Int.reduceBEq, Nat.reduceLeDiff, q71, c3]
        refine call_one (S := rDocsPutSpec) rfl _ GaL.rfl ⟨R, qf, ⟨0, 1, year, 0, 0⟩, ownL l, ⟨z0, z1, hy, z0, z0⟩, hook, rfl, g1, by omega, fun h2 g3 g4 => ?_⟩
        have hno := docsPut_no (f := qf) (d := ⟨0, 1, year, 0, 0⟩) (l := ownL l)
        generalize docsPut qf ⟨0, 1, year, 0, 0⟩ (ownL l) = r at hq g3 hno ⊢
        rcases r with ⟨rf, ri, re⟩
        simp only at hq g3 hno ⊢
        have hq' := hq h2 g3 (g2.trans g4)
        simp -dsimp only [Vm.G, List.lookup, Nat.reduceAdd, Nat.reduceBEq, Int.reduceBNe, Int.reduceBEq, Nat.reduceLeDiff, q71]
        have h4 := Bool.eq_false_or_eq_true (re != 0)
        rcases h4 with c4 | c4
        · have d4 : re ≠ 0 := by simpa using c4
          have e4 : (re == 0) = false := by simpa using d4
          rw [hno d4, e4, Bool.and_false] at hq'
          simp -dsimp only [Vm.G, List.lookup, Nat.reduceAdd, Nat.reduceBEq, Int.reduceBNe, Int.reduceBEq, Nat.reduceLeDiff, q71, c4]
          exact hq'
        · have d4 : re = 0 := by simpa using c4
          subst d4
          rw [beq_self_eq_true, Bool.and_true] at hq'
          simp -dsimp only [Vm.G, List.lookup, Nat.reduceAdd, Nat.reduceBEq, Int.reduceBNe, Int.reduceBEq, Nat.reduceLeDiff, q71, c4]
          exact hq'
end Go.Proofs.Lx
/- The law SeqnRises: walked. -/
set_option linter.unusedSimpArgs false
set_option linter.unusedVariables false
namespace Go.Proofs.Lx
open Go.Vm
attribute [local irreducible] awpArr awpBin awpMake awpAppend awpCvX awpStrOf awpBinX awpSlice awpBS awpStore awpAlloc awpCopy awpIndex awpDraw awpIdxX awpFa awpField awpLookup awpUpdate awpDelete awpClear awpRange awpNext awpEntry awpBuild
end Go.Proofs.Lx
/- The law SeqnGives. -/
set_option linter.unusedSimpArgs false
set_option linter.unusedVariables false
namespace Go.Proofs.Lx
open Go.Vm
attribute [local irreducible] awpArr awpBin awpMake awpAppend awpCvX awpStrOf awpBinX awpSlice awpBS awpStore awpAlloc awpCopy awpIndex awpDraw awpIdxX awpFa awpField awpLookup awpUpdate awpDelete awpClear awpRange awpNext awpEntry awpBuild awpClearS awpIdxL
end Go.Proofs.Lx
/- The law YearsLive. -/
set_option linter.unusedSimpArgs false
set_option linter.unusedVariables false
namespace Go.Proofs.Lx
open Go.Vm
attribute [local irreducible] awpArr awpBin awpMake awpAppend awpCvX awpStrOf awpBinX awpSlice awpBS awpStore awpAlloc awpCopy awpIndex awpDraw awpIdxX awpFa awpField awpLookup awpUpdate awpDelete awpClear awpRange awpNext awpEntry awpBuild awpClearS awpIdxL awpTree appB awpIdxO eltA treeA
theorem both_rnew {h : Heap} {V : VId} (hV : isView h V noF) : Both (rNewH h) V (rNewId h) noF := by
  refine ⟨by unfold rNewH; exact hV.more _, isRef_new h, fun i hi hm => ?_⟩
  obtain ⟨chg, clk, mem, clk2, h1, h2, h3, -⟩ := hV
  have a1 := get_lt h1
  have a2 := get_lt h2
  have a3 := get_lt h3
  simp only [rNewId, List.mem_cons, List.not_mem_nil, or_false] at hi hm
  omega
theorem bool_neq {a b : Bool} {KV : Value → Prop} : awpBin Tryz.prog .neq 4 (.v (.bool a)) (.v (.bool b)) KV = KV (.bool (!(a == b))) := by simp [awpBin, Tryz.underlying4]
end Go.Proofs.Lx
/- The law PreOpen. -/
set_option linter.unusedSimpArgs false
set_option linter.unusedVariables false
namespace Go.Proofs.Lx
open Go.Vm
attribute [local irreducible] awpArr awpBin awpMake awpAppend awpCvX awpStrOf awpBinX awpSlice awpBS awpStore awpAlloc awpCopy awpIndex awpDraw awpIdxX awpFa awpField awpLookup awpUpdate awpDelete awpClear awpRange awpNext awpEntry awpBuild awpClearS awpIdxL awpTree appB awpIdxO eltA treeA
def yr20 (n : Nd) : Nd := { n with year := 2020 }
def putN (f : Fun) (n : Nd) : Fun := upd f (ndK (yr20 n)) (some (ndV (yr20 n)))
def begunF (l : List Nd) : Fun := l.foldl putN (openOf noF 2020).1
theorem begunF_n (l : List Nd) : (begunF l).n ≤ l.length + 1 := by
  have : ∀ (l : List Nd) (f : Fun), (l.foldl putN f).n = f.n + l.length := by
    intro l
    induction l with
    | nil => intro f; rfl
    | cons x r ih =>
      intro f
      rw [List.foldl_cons, ih]
      show f.n + 1 + r.length = _
      simp only [List.length_cons]; omega
  unfold begunF
  rw [this]
  have := open_n noF 2020
  have h0 : noF.n = 0 := rfl
  omega
end Go.Proofs.Lx
/- Two views beside, committed and forgotten: the law PreNew. -/
set_option linter.unusedSimpArgs false
set_option linter.unusedVariables false
namespace Go.Proofs.Lx
open Go.Vm
attribute [local irreducible] awpArr awpBin awpMake awpAppend awpCvX awpStrOf awpBinX awpSlice awpBS awpStore awpAlloc awpCopy awpIndex awpDraw awpIdxX awpFa awpField awpLookup awpUpdate awpDelete awpClear awpRange awpNext awpEntry awpBuild awpClearS awpIdxL awpTree appB awpIdxO eltA treeA
def rComId (R : RId) (h : Heap) : RId := ⟨R.iv, h.length, R.inn, h.length + 1⟩
def rAbId (R : RId) (h : Heap) : RId := ⟨R.iv, R.iw, h.length, h.length + 1⟩
theorem set_two {h : Heap} {i : Nat} (hi : i < h.length) (x y z a : AObj) : ((h ++ [x]).set i y ++ [a]).set i z = h.set i z ++ [x, a] := by
  rw [List.set_append_left _ _ hi, List.append_assoc, List.set_append_left _ _ (by rw [List.length_set]; exact hi), List.set_set]
  rfl
theorem get_two {h : Heap} {i j : Nat} {x a z o : AObj} (hj : h[j]? = some o) (hne : j ≠ i) : (h.set i z ++ [x, a])[j]? = some o := by
  have hl : j < (h.set i z).length := by rw [List.length_set]; exact get_lt hj
  rw [List.getElem?_append_left hl, List.getElem?_set_ne (Ne.symm hne)]; exact hj
theorem get_two0 (h : Heap) (i : Nat) (z x a : AObj) : (h.set i z ++ [x, a])[h.length]? = some x := by
  rw [List.getElem?_append_right (by simp)]; simp
theorem get_two1 (h : Heap) (i : Nat) (z x a : AObj) : (h.set i z ++ [x, a])[h.length + 1]? = some a := by
  rw [List.getElem?_append_right (by simp)]; simp
theorem get_twoI {h : Heap} {i : Nat} (hi : i < h.length) (z x a : AObj) : (h.set i z ++ [x, a])[i]? = some z := by
  rw [List.getElem?_append_left (by rw [List.length_set]; exact hi), List.getElem?_set_self hi]
theorem same_two {h : Heap} {i : Nat} (z x a : AObj) : Same h (h.set i z ++ [x, a]) [i] :=
  ⟨by simp, fun j hj hm => by rw [List.getElem?_append_left (by rw [List.length_set]; exact hj), List.getElem?_set_ne (by simp at hm; omega)]⟩
set_option maxHeartbeats 1000000 in
theorem does_rCom0 : Does Tryz.prog 154 (fun args h Q => ∃ (R : RId) (ln : List KV), args = [.ptr R.iv 0] ∧ h[R.iv]? = some (.cells [.ptr R.iw 0, .ptr R.inn 0, .ptr R.it 0]) ∧ h[R.inn]? = some (tabObj ln) ∧
    Q (.tup []) (h.set R.iv (.cells [.ptr h.length 0, .ptr R.inn 0, .ptr (h.length + 1) 0]) ++ [tabObj ln, .cells [.v (.slice none 0 0)]])) := by
  refine does_of_awp good_nil Tryz.func154 rfl (by decide +kernel) (by decide +kernel) ?_
  rintro args h Q ⟨R, ln, rfl, h1, h2, hq⟩
  refine ⟨by simp [Tryz.f154], ?_⟩
  rw [awpFunc_some (by rfl)]
  have hlt := get_lt h1
  have k1 : ∀ r, (h ++ r)[R.iv]? = some (.cells [.ptr R.iw 0, .ptr R.inn 0, .ptr R.it 0]) := fun r => heap_get r h1
  unfold tabObj at h2 hq
  simp -dsimp only [Vm.G, List.lookup, Nat.reduceAdd, Nat.reduceBEq, Int.reduceBNe, Int.reduceBEq, Nat.reduceLeDiff, q154, h1, h2, k1]
  have k2 : ((h ++ [AObj.cells [.sl 2 (ln.map kvAv)]]).set R.iv (.cells [AV.ptr h.length 0, .ptr R.inn 0, .ptr R.it 0]))[R.iv]? = some (.cells [AV.ptr h.length 0, .ptr R.inn 0, .ptr R.it 0]) := List.getElem?_set_self (by simp; omega)
  have k3 : ∀ r, (((h ++ [AObj.cells [.sl 2 (ln.map kvAv)]]).set R.iv (.cells [AV.ptr h.length 0, .ptr R.inn 0, .ptr R.it 0])) ++ r)[R.iv]? = some (.cells [AV.ptr h.length 0, .ptr R.inn 0, .ptr R.it 0]) := fun r => heap_get r k2
  have k4 : ((h ++ [AObj.cells [.sl 2 (ln.map kvAv)]]).set R.iv (.cells [AV.ptr h.length 0, .ptr R.inn 0, .ptr R.it 0])).length = h.length + 1 := by simp
  have e1 : putCells [AV.ptr R.iw 0, .ptr R.inn 0, .ptr R.it 0] 0 [.ptr h.length 0] = [AV.ptr h.length 0, .ptr R.inn 0, .ptr R.it 0] := rfl
  try simp only [e1]
  simp -dsimp only [Vm.G, List.lookup, Nat.reduceAdd, Nat.reduceBEq, Int.reduceBNe, Int.reduceBEq, Nat.reduceLeDiff, q154, k2, k3, k4]
  have e2 : putCells [AV.ptr h.length 0, .ptr R.inn 0, .ptr R.it 0] 2 [.ptr (h.length + 1) 0] = [.ptr h.length 0, .ptr R.inn 0, .ptr (h.length + 1) 0] := rfl
  try simp only [e2]
  rw [set_two hlt]
  exact hq
set_option maxHeartbeats 1000000 in
theorem does_rAb0 : Does Tryz.prog 155 (fun args h Q => ∃ (R : RId) (ln : List KV), args = [.ptr R.iv 0] ∧ h[R.iv]? = some (.cells [.ptr R.iw 0, .ptr R.inn 0, .ptr R.it 0]) ∧ h[R.iw]? = some (tabObj ln) ∧
    Q (.tup []) (h.set R.iv (.cells [.ptr R.iw 0, .ptr h.length 0, .ptr (h.length + 1) 0]) ++ [tabObj ln, .cells [.v (.slice none 0 0)]])) := by
  refine does_of_awp good_nil Tryz.func155 rfl (by decide +kernel) (by decide +kernel) ?_
  rintro args h Q ⟨R, ln, rfl, h1, h2, hq⟩
  refine ⟨by simp [Tryz.f155], ?_⟩
  rw [awpFunc_some (by rfl)]
  have hlt := get_lt h1
  have k1 : ∀ r, (h ++ r)[R.iv]? = some (.cells [.ptr R.iw 0, .ptr R.inn 0, .ptr R.it 0]) := fun r => heap_get r h1
  unfold tabObj at h2 hq
  simp -dsimp only [Vm.G, List.lookup, Nat.reduceAdd, Nat.reduceBEq, Int.reduceBNe, Int.reduceBEq, Nat.reduceLeDiff, q155, h1, h2, k1]
  have k2 : ((h ++ [AObj.cells [.sl 2 (ln.map kvAv)]]).set R.iv (.cells [AV.ptr R.iw 0, .ptr h.length 0, .ptr R.it 0]))[R.iv]? = some (.cells [AV.ptr R.iw 0, .ptr h.length 0, .ptr R.it 0]) := List.getElem?_set_self (by simp; omega)
  have k3 : ∀ r, (((h ++ [AObj.cells [.sl 2 (ln.map kvAv)]]).set R.iv (.cells [AV.ptr R.iw 0, .ptr h.length 0, .ptr R.it 0])) ++ r)[R.iv]? = some (.cells [AV.ptr R.iw 0, .ptr h.length 0, .ptr R.it 0]) := fun r => heap_get r k2
  have k4 : ((h ++ [AObj.cells [.sl 2 (ln.map kvAv)]]).set R.iv (.cells [AV.ptr R.iw 0, .ptr h.length 0, .ptr R.it 0])).length = h.length + 1 := by simp
  have e1 : putCells [AV.ptr R.iw 0, .ptr R.inn 0, .ptr R.it 0] 1 [.ptr h.length 0] = [AV.ptr R.iw 0, .ptr h.length 0, .ptr R.it 0] := rfl
  try simp only [e1]
  simp -dsimp only [Vm.G, List.lookup, Nat.reduceAdd, Nat.reduceBEq, Int.reduceBNe, Int.reduceBEq, Nat.reduceLeDiff, q155, k2, k3, k4]
  have e2 : putCells [AV.ptr R.iw 0, .ptr h.length 0, .ptr R.it 0] 2 [.ptr (h.length + 1) 0] = [.ptr R.iw 0, .ptr h.length 0, .ptr (h.length + 1) 0] := rfl
  try simp only [e2]
  rw [set_two hlt]
  exact hq
theorem gaH_two {h : Heap} {i : Nat} (z x : AObj) : GaH (h.set i z ++ [x, .cells [.v (.slice none 0 0)]]) (h.set i z ++ [x, tabObj []]) :=
  GaH.append rfl fun i o' ho' => by
    match i, ho' with
    | 0, ho' => exact ⟨o', ho', .inl rfl⟩
    | 1, ho' => exact ⟨_, rfl, .inr ⟨_, _, rfl, (Option.some.inj ho').symm, .cons (.nil 2) .nil⟩⟩
    | i + 2, ho' => simp at ho'
def rComSpec : Vm.Spec := fun args h Q => ∃ (R : RId) (f : Fun), args = [.ptr R.iv 0] ∧ isRef h R f ∧ ∀ h', isRef h' (rComId R h) f → wasR h' (rComId R h) f → Same h h' [R.iv] → Q (.tup []) h'
theorem does_rCom : Does Tryz.prog 154 rComSpec := by
  refine (does_weakH does_rCom0).imp ?_
  rintro args h Q ⟨R, f, rfl, ⟨lw, ln, lt, h1, h2, h3, h4, ⟨n1, n2, n3, n4, n5⟩, h6, ⟨h7, h8⟩, h9⟩, hq⟩
  refine ⟨h, .refl h, R, ln, rfl, h1, h3, _, gaH_two _ _, ?_⟩
  have hi := get_lt h1
  have hn := get_lt h3
  refine hq _ ⟨ln, ln, [], get_twoI hi _ _ _, get_two0 _ _ _ _ _, get_two h3 n1.symm, get_two1 _ _ _ _ _, ⟨?_, ?_, ?_, ?_, ?_⟩, h6, ⟨h7, by simp⟩, h9⟩ ⟨ln, get_two0 _ _ _ _ _, h6, h7, h9⟩ (same_two _ _ _) <;> (simp only [rComId]; omega)
def rAbSpec : Vm.Spec := fun args h Q => ∃ (R : RId) (f g : Fun), args = [.ptr R.iv 0] ∧ isRef h R f ∧ wasR h R g ∧ ∀ h', isRef h' (rAbId R h) g → wasR h' (rAbId R h) g → Same h h' [R.iv] → Q (.tup []) h'
theorem does_rAb : Does Tryz.prog 155 rAbSpec := by
  refine (does_weakH does_rAb0).imp ?_
  rintro args h Q ⟨R, f, g, rfl, ⟨lw, ln, lt, h1, h2, h3, h4, ⟨n1, n2, n3, n4, n5⟩, h6, ⟨h7, h8⟩, h9⟩, ⟨lw2, w1, w2, w3, w4⟩, hq⟩
  rw [h2] at w1
  have hlw : lw = lw2 := by
    have := Option.some.inj w1
    unfold tabObj at this
    injection this with e
    injection e with e
    injection e with e1 e2
    exact List.map_inj_right (fun a b hab => by
      unfold kvAv at hab
      injection hab with h
      injection h with h1 h2
      injection h2 with h2 h3
      injection h1 with _ h1
      injection h2 with _ h2
      have i1 : a.1 = b.1 := by have := congrArg (List.map unB) h1; simpa [Function.comp_def, unB_encB] using this
      have i2 : a.2 = b.2 := by have := congrArg (List.map unB) h2; simpa [Function.comp_def, unB_encB] using this
      exact Prod.ext i1 i2) |>.1 e2
  subst hlw
  have nw : R.iw ≠ R.iv := fun e => by
    rw [e, h1] at h2
    have := Option.some.inj h2
    unfold tabObj at this
    injection this with e
    have := congrArg List.length e
    simp at this
  refine ⟨h, .refl h, R, lw, rfl, h1, h2, _, gaH_two _ _, ?_⟩
  have hi := get_lt h1
  have hn := get_lt h2
  refine hq _ ⟨lw, lw, [], get_twoI hi _ _ _, get_two h2 nw, get_two0 _ _ _ _ _, get_two1 _ _ _ _ _, ⟨?_, ?_, ?_, ?_, ?_⟩, w2, ⟨w3, by simp⟩, w4⟩ ⟨lw, get_two h2 nw, w2, w3, w4⟩ (same_two _ _ _) <;> (simp only [rAbId]; omega)
def samesSpec : Vm.Spec := fun args h Q => ∃ (V : VId) (R : RId) (f : Fun), args = [.ptr V.iv 0, .ptr R.iv 0] ∧ Both h V R f ∧ f.n ≤ 536870912 ∧ ∀ h', Both h' V R f → Same h h' [] → Q (.v (.bool true)) h'
theorem does_sames : Does Tryz.prog 54 samesSpec := by
  refine does_of_awp (good_cons does_scan (good_cons does_rScan (good_cons does_pairs good_nil))) Tryz.func54 rfl (by decide +kernel) (by decide +kernel) ?_
  rintro args h Q ⟨V, R, f, rfl, hB, hn, hq⟩
  refine ⟨by simp [Tryz.f54], ?_⟩
  rw [awpFunc_some (by rfl)]
  simp -dsimp only [Vm.G, List.lookup, Nat.reduceAdd, Nat.reduceBEq, Int.reduceBNe, Int.reduceBEq, Nat.reduceLeDiff, q54]
  refine call_one (S := scanSpec) rfl _ (.cons (.refl _) (.cons (.nil 1) .nil)) ⟨V, f, [], rfl, by simp, hB.1, hn, fun l h1 hsc hln hV1 hs1 => ?_⟩
  have hB1 := hB.quiet hV1 hs1
  simp -dsimp only [Vm.G, List.lookup, Nat.reduceAdd, Nat.reduceBEq, Int.reduceBNe, Int.reduceBEq, Nat.reduceLeDiff, q54]
  refine call_one (S := rScanSpec) rfl _ (.cons (.refl _) (.cons (.nil 1) .nil)) ⟨R, f, [], rfl, by simp, hB1.2.1, hn, fun l' hsc' hln' => ?_⟩
  obtain rfl := hsc.same hsc'
  simp -dsimp only [Vm.G, List.lookup, Nat.reduceAdd, Nat.reduceBEq, Int.reduceBNe, Int.reduceBEq, Nat.reduceLeDiff, q54]
  refine call_one (S := pairsSpec) rfl _ GaL.rfl ⟨l, l, by omega, rfl, ?_⟩
  simp -dsimp only [Vm.G, List.lookup, Nat.reduceAdd, Nat.reduceBEq, Int.reduceBNe, Int.reduceBEq, Nat.reduceLeDiff, q54, decide_true]
  exact hq _ hB1 hs1
theorem both_turn {h h1 h2 : Heap} {V : VId} {R R' : RId} {f k : Fun} (hB : Both h V R f) (hV : isView h1 V k) (hs : Same h h1 [V.ic, V.im]) (hR : isRef h2 R' k) (hs2 : Same h1 h2 [R.iv]) (hm : memV h1 V k) (hw : wasR h2 R' k)
    (hid : R' = rComId R h1 ∨ R' = rAbId R h1) : BothW h2 V R' k k := by
  obtain ⟨hB1, hB2, hB3⟩ := hB
  have hd : ∀ i ∈ [V.iv, V.ic, V.im], i ∉ [R.iv] := fun i hi hm => hB3 i hi (by simp at hm ⊢; exact .inl hm)
  have hlt : ∀ i ∈ [V.iv, V.ic, V.im], i < h1.length := fun i hi => by
    obtain ⟨chg, clk, mem, clk2, h1, h2, h3, h4⟩ := hV
    simp only [List.mem_cons, List.not_mem_nil, or_false] at hi
    rcases hi with rfl | rfl | rfl
    · exact get_lt h1
    · exact get_lt h2
    · exact get_lt h3
  refine ⟨⟨hV.same hs2 hd, hR, fun i hi hmem => ?_⟩, hm.same hs2 (hd _ (by simp)), hw⟩
  have h3 := hB3 i hi
  have h4 := hlt i hi
  simp only [List.mem_cons, List.not_mem_nil, or_false, not_or] at h3 hmem
  rcases hid with rfl | rfl
  · simp only [rComId] at hmem
    omega
  · simp only [rAbId] at hmem
    omega
def turnF (e : Int) (f g : Fun) : Fun := if e = 0 then f else g
def endSpec : Vm.Spec := fun args h Q => ∃ (V : VId) (R : RId) (f g : Fun) (e : Int), args = [.ptr V.iv 0, .ptr R.iv 0, .v (.int .i64 e)] ∧ BothW h V R f g ∧ f.n ≤ 536870912 ∧ g.n ≤ 536870912 ∧
  ∀ (R' : RId) h', R'.iv = R.iv → BothW h' V R' (turnF e f g) (turnF e f g) → Q (.v (.bool true)) h'
def vnewWSpec : Vm.Spec := fun args h Q => args = [nilP] ∧ ∀ (V : VId) (h' : Heap), isView h' V noF → memV h' V noF → Q (.ptr V.iv 0) h'
theorem does_vnewW : Does Tryz.prog 13 vnewWSpec := does_vnew.imp (by
  rintro args h Q ⟨rfl, hq⟩
  refine ⟨rfl, hq ⟨h.length + 2, h.length, h.length + 1⟩ _ (isView_new h) ⟨[], 0, ?_, fun k => rfl, by simp⟩⟩
  rw [List.getElem?_append_right (by simp)]; simp)
def rNewWSpec : Vm.Spec := fun args h Q => ∃ V : VId, args = [.sl 2 []] ∧ isView h V noF ∧ memV h V noF ∧ ∀ (R : RId) (h' : Heap), BothW h' V R noF noF → Q (.ptr R.iv 0) h'
theorem does_rNewW : Does Tryz.prog 21 rNewWSpec := does_rNew.imp (by
  rintro args h Q ⟨V, rfl, hV, ⟨mem, clk, m1, m2⟩, hq⟩
  refine ⟨rfl, hq (rNewId h) _ ⟨both_rnew hV, ⟨mem, clk, heap_get _ m1, m2⟩, ⟨[], ?_, TabIs.new, by simp, by simp⟩⟩⟩
  unfold rNewH rNewId
  rw [List.getElem?_append_right (by simp)]; simp)
def begunWSpec : Vm.Spec := fun args h Q => ∃ l : List Nd, l.length ≤ 1048576 ∧ (∀ n ∈ l, n.ok) ∧ args = [.sl 12 (l.map ndAv)] ∧ ∀ (V : VId) (R : RId) (h' : Heap), BothW h' V R (begunF l) noF → Q (.tup [.ptr V.iv 0, .ptr R.iv 0]) h'
structure Dop where
  year : Int
  frm : Int
  lines : List Ln
def dopAv (k : Dop) : AV := .agg [.v (.int .i64 k.year), .v (.int .i64 k.frm), .sl 4 (k.lines.map lnAv)]
def Dop.ok (k : Dop) : Prop := I64 k.year ∧ I64 k.frm ∧ ∀ x ∈ k.lines, x.ok
def fewWSpec : Vm.Spec := fun args h Q => ∃ (ns : List Nd) (l : List Dop), l.length ≤ 9223372036854775807 ∧ args = [.sl 12 (ns.map ndAv), .sl 3 (l.map dopAv)] ∧ ∀ b : Bool, (b = true → ns.length ≤ 20 ∧ l.length ≤ 20 ∧ ∀ k ∈ l, k.lines.length ≤ 20) → Q (.v (.bool b)) h
theorem turnF_n {e : Int} {f g : Fun} {b : Nat} (h1 : f.n ≤ b) (h2 : g.n ≤ b) : (turnF e f g).n ≤ b := by unfold turnF; split <;> assumption
theorem isA_lnk {y : AV} (h : IsA (.agg [.int .i64, .int .i64, .int .i64, .int .i64]) y) : ∃ x : Ln, x.ok ∧ y = lnAv x := by
  simp only [IsA, IsAll] at h
  obtain ⟨ys, ⟨y1, r1, rfl, h1, y2, r2, rfl, h2, y3, r3, rfl, h3, y4, r4, rfl, h4, rfl⟩, rfl⟩ := h
  obtain ⟨a1, k1, rfl⟩ := isA_int (by simpa only [IsA] using h1)
  obtain ⟨a2, k2, rfl⟩ := isA_int (by simpa only [IsA] using h2)
  obtain ⟨a3, k3, rfl⟩ := isA_int (by simpa only [IsA] using h3)
  obtain ⟨a4, k4, rfl⟩ := isA_int (by simpa only [IsA] using h4)
  exact ⟨⟨a1, a2, a3, a4⟩, ⟨k1, k2, k3, k4⟩, rfl⟩
theorem isA_dop {y : AV} (h : IsA (.agg [.int .i64, .int .i64, .sl (.agg [.int .i64, .int .i64, .int .i64, .int .i64])]) y) : ∃ k : Dop, k.ok ∧ y = dopAv k := by
  simp only [IsA, IsAll] at h
  obtain ⟨ys, ⟨y1, r1, rfl, h1, y2, r2, rfl, h2, y3, r3, rfl, h3, rfl⟩, rfl⟩ := h
  obtain ⟨a1, k1, rfl⟩ := isA_int (by simpa only [IsA] using h1)
  obtain ⟨a2, k2, rfl⟩ := isA_int (by simpa only [IsA] using h2)
  obtain ⟨ll, -, rfl, hll⟩ := isA_list _ lnAv (fun y hy => isA_lnk hy) (by simpa only [IsA, IsAll] using h3)
  exact ⟨⟨a1, a2, ll⟩, ⟨k1, k2, hll⟩, rfl⟩
end Go.Proofs.Lx
/- Plain laws for DocsBack. -/
set_option linter.unusedSimpArgs false
set_option linter.unusedVariables false
namespace Go.Proofs.Lx
open Go.Vm
attribute [local irreducible] awpArr awpBin awpMake awpAppend awpCvX awpStrOf awpBinX awpSlice awpBS awpStore awpAlloc awpCopy awpIndex awpDraw awpIdxX awpFa awpField awpLookup awpUpdate awpDelete awpClear awpRange awpNext awpEntry awpBuild awpClearS awpIdxL awpTree appB awpIdxO eltA treeA
end Go.Proofs.Lx
/- The law DocsBack: walks. -/
set_option linter.unusedSimpArgs false
set_option linter.unusedVariables false
namespace Go.Proofs.Lx
open Go.Vm
attribute [local irreducible] awpArr awpBin awpMake awpAppend awpCvX awpStrOf awpBinX awpSlice awpBS awpStore awpAlloc awpCopy awpIndex awpDraw awpIdxX awpFa awpField awpLookup awpUpdate awpDelete awpClear awpRange awpNext awpEntry awpBuild awpClearS awpIdxL awpTree appB awpIdxO eltA treeA
theorem eqDl (x y : Dl) : ((x.node == y.node) && ((x.orig == y.orig) && ((x.liq == y.liq) && (x.can == y.can)))) = true ↔ x = y := by
  obtain ⟨a, b, c, d⟩ := x
  obtain ⟨a2, b2, c2, d2⟩ := y
  simp [and_assoc]
def eqSpecDl : Vm.Spec := fun args h Q => ∃ l l' : List Dl, l.length ≤ 9223372036854775807 ∧ args = [.sl 4 (l.map dlAv), .sl 4 (l'.map dlAv)] ∧ ∀ b : Bool, (b = true ↔ l = l') → Q (.v (.bool b)) h
set_option maxHeartbeats 1000000 in
theorem does_eqDl : Does Tryz.prog 38 eqSpecDl := by
  refine does_of_awp good_nil Tryz.func38 rfl (by decide +kernel) (by decide +kernel) ?_
  rintro args h Q ⟨l, l', hl, rfl, hq⟩
  refine ⟨by simp [Tryz.f38], ?_⟩
  rw [awpFunc_some (by rfl)]
  simp -dsimp only [Vm.G, List.lookup, Nat.reduceAdd, Nat.reduceBEq, Int.reduceBNe, Int.reduceBEq, Nat.reduceLeDiff, q38]
  by_cases hlen : l.length = l'.length
  · have c1 : ((l.length : Int) != l'.length) = false := by simp [hlen]
    simp -dsimp only [Vm.G, List.lookup, Nat.reduceAdd, Nat.reduceBEq, Int.reduceBNe, Int.reduceBEq, Nat.reduceLeDiff, q38, c1]
    refine awp_loop (fun m s h' => ∃ i : Nat, i + m = l.length ∧ h' = h ∧ (∀ j (hj : j < l.length), j < i → l[j] = l'[j]'(by omega)) ∧ s = mk [(0, .sl 4 (l.map dlAv)), (1, .sl 4 (l'.map dlAv)), (12, .v (.int .i64 l.length)), (13, .v (.int .i64 i))])
      l.length _ (le_mk _ ?_) ⟨0, by omega, rfl, fun j _ hj => by omega, rfl⟩ ?_
    · simp only [List.forall_mem_cons, List.not_mem_nil, false_imp_iff, implies_true, and_true]
      try simp -dsimp only [Vm.G, List.lookup, Nat.reduceAdd, Nat.reduceBEq, Int.reduceBNe, Int.reduceBEq, Nat.reduceLeDiff, q38]
      repeat' first | exact Fg.refl _ | exact Fg.nil _ _ _ (by decide) | refine And.intro ?_ ?_
    · rintro m s h' ⟨i, hi, rfl, hb, rfl⟩
      simp -dsimp only [Vm.G, List.lookup, Nat.reduceAdd, Nat.reduceBEq, Int.reduceBNe, Int.reduceBEq, Nat.reduceLeDiff, q38]
      refine cond_intro (fun hcc => ?_) (fun hcc => ?_)
      · have hlt : i < l.length := by have := of_decide_eq_true hcc; omega
        have hlt' : i < l'.length := by omega
        obtain ⟨x, hx⟩ : ∃ x, l[i] = x := ⟨_, rfl⟩
        obtain ⟨y, hy⟩ : ∃ y, l'[i] = y := ⟨_, rfl⟩
        have hw : IntKind.i64.wrap ((i : Int) + 1) = ((i + 1 : Nat) : Int) := by rw [wrap_i64 (by omega) (by omega)]; simp
        simp -dsimp only [Vm.G, List.lookup, Nat.reduceAdd, Nat.reduceBEq, Int.reduceBNe, Int.reduceBEq, Nat.reduceLeDiff, q38]
        refine draw_cont [] (.take 0 (.take 1 (.take 2 (.take 3 (.take 4 (.take 5 (.take 6 (.take 7 (.take 8 (.done)))))))))) (fun s hx => hx = h' ∧ (∃ b : Bool, (b = true ↔ x = y) ∧ s 24 = .v (.bool (!b))) ∧ s 0 = .sl 4 (l.map dlAv) ∧ s 1 = .sl 4 (l'.map dlAv) ∧ s 12 = .v (.int .i64 l.length) ∧ s 13 = .v (.int .i64 i)) (by kernel_rfl) (by kernel_rfl) (by kernel_rfl) (by decide) ?_ ?_
        · simp -dsimp only [Vm.G, List.lookup, Nat.reduceAdd, Nat.reduceBEq, Int.reduceBNe, Int.reduceBEq, Nat.reduceLeDiff, q38]
          refine idx_map dlAv l i hlt ?_
          simp only [hx, dlAv, dlCells]
          simp -dsimp only [Vm.G, List.lookup, Nat.reduceAdd, Nat.reduceBEq, Int.reduceBNe, Int.reduceBEq, Nat.reduceLeDiff, q38, AV.cells]
          refine idx_map dlAv l' i hlt' ?_
          simp only [hy, dlAv, dlCells]
          simp -dsimp only [Vm.G, List.lookup, Nat.reduceAdd, Nat.reduceBEq, Int.reduceBNe, Int.reduceBEq, Nat.reduceLeDiff, q38, AV.cells]
          refine eq_agg fd62 rfl ?_
          simp -dsimp only [Vm.G, List.lookup, Nat.reduceAdd, Nat.reduceBEq, Int.reduceBNe, Int.reduceBEq, Nat.reduceLeDiff, q38]
          refine ⟨⟨_, eqDl x y, rfl⟩, ?_⟩
          repeat' first | rfl | exact True.intro | refine And.intro ?_ ?_
        · rintro s hx2 ⟨rfl, ⟨b, hbe, e24⟩, e0, e1, e12, e13⟩
          cases b
          · have hne : ¬ l = l' := fun e => by
              have : x = y := by subst e; rw [← hx, ← hy]
              have := hbe.2 this
              cases this
            simp -dsimp only [Vm.G, List.lookup, Nat.reduceAdd, Nat.reduceBEq, Int.reduceBNe, Int.reduceBEq, Nat.reduceLeDiff, q38, e24, e0, e1, e12, e13]
            exact hq false ⟨fun h => (by cases h), fun h => (hne h).elim⟩
          · have he := hbe.1 rfl
            simp -dsimp only [Vm.G, List.lookup, Nat.reduceAdd, Nat.reduceBEq, Int.reduceBNe, Int.reduceBEq, Nat.reduceLeDiff, q38, e24, e0, e1, e12, e13]
            refine kept_intro ⟨l.length - (i + 1), by omega, _, le_mk [(0, .sl 4 (l.map dlAv)), (1, .sl 4 (l'.map dlAv)), (12, .v (.int .i64 l.length)), (13, .v (.int .i64 (i + 1 : Nat)))] ?_, i + 1, by omega, rfl, fun j hj hj2 => ?_, rfl⟩
            · simp only [List.forall_mem_cons, List.not_mem_nil, false_imp_iff, implies_true, and_true, hw, e24, e0, e1, e12, e13]
              try simp -dsimp only [Vm.G, List.lookup, Nat.reduceAdd, Nat.reduceBEq, Int.reduceBNe, Int.reduceBEq, Nat.reduceLeDiff, q38, hw, e24, e0, e1, e12, e13]
              repeat' first | exact Fg.refl _ | exact Fg.nil _ _ _ (by decide) | refine And.intro ?_ ?_
            · by_cases hji : j = i
              · subst hji; rw [hx, hy]; exact he
              · exact hb j hj (by omega)
      · have hge : ¬ i < l.length := by have := of_decide_eq_false hcc; omega
        have he : l = l' := List.ext_getElem hlen fun j h1 h2 => hb j h1 (by omega)
        simp -dsimp only [Vm.G, List.lookup, Nat.reduceAdd, Nat.reduceBEq, Int.reduceBNe, Int.reduceBEq, Nat.reduceLeDiff, q38]
        exact hq true ⟨fun _ => he, fun _ => rfl⟩
  · have c1 : ((l.length : Int) != l'.length) = true := by simp; omega
    simp -dsimp only [Vm.G, List.lookup, Nat.reduceAdd, Nat.reduceBEq, Int.reduceBNe, Int.reduceBEq, Nat.reduceLeDiff, q38, c1]
    exact hq false ⟨fun h => (by cases h), fun h => (hlen (by rw [h])).elim⟩
end Go.Proofs.Lx
/- Encumbrances, the reference's: ref32. The law EncNew. -/
set_option linter.unusedSimpArgs false
set_option linter.unusedVariables false
namespace Go.Proofs.Lx
open Go.Vm
attribute [local irreducible] awpArr awpBin awpMake awpAppend awpCvX awpStrOf awpBinX awpSlice awpBS awpStore awpAlloc awpCopy awpIndex awpDraw awpIdxX awpFa awpField awpLookup awpUpdate awpDelete awpClear awpRange awpNext awpEntry awpBuild awpClearS awpIdxL awpTree appB awpIdxO eltA treeA
theorem takeOne_neg {f : Fun} {frm : Int} {x : Ln} (h : x.node < 0) : takeOne f frm x = (f, .zero, 7) := by unfold takeOne; rw [if_pos h]
theorem takeOne_out {f : Fun} {frm : Int} {x : Ln} {own : List Dl} (ho : ownAt f frm = own) (h : ¬ x.node < 0) (h2 : own.length ≤ x.node.toNat) : takeOne f frm x = (f, .zero, 7) := by
  unfold takeOne
  rw [if_neg h, ho, List.getElem?_eq_none h2]
theorem takeOne_few {f : Fun} {frm : Int} {x : Ln} {own : List Dl} {y : Dl} (ho : ownAt f frm = own) (h : ¬ x.node < 0) (hy : own[x.node.toNat]? = some y) (h3 : openD y < x.amt) : takeOne f frm x = (f, .zero, 12) := by
  unfold takeOne
  rw [if_neg h, ho, hy]
  simp only
  rw [if_pos h3]
theorem takeOne_yes {f : Fun} {frm : Int} {x : Ln} {own : List Dl} {y : Dl} (ho : ownAt f frm = own) (h : ¬ x.node < 0) (hy : own[x.node.toNat]? = some y) (h3 : ¬ openD y < x.amt) :
    takeOne f frm x = (upd f (dlK frm x.node) (some (dlV { y with liq := w64 (y.liq + x.amt) })), ⟨y.node, x.amt, 0, 0⟩, 0) := by
  unfold takeOne
  rw [if_neg h, ho, hy]
  simp only
  rw [if_neg h3]
def rTakeSpec : Vm.Spec := fun args h Q => ∃ (R : RId) (f : Fun) (kind year frm : Int) (l : List Ln), I64 frm ∧ (∀ x ∈ l, x.ok) ∧ l.length ≤ 1048576 ∧ args = [.ptr R.iv 0, .v (.int .i64 kind), .v (.int .i64 year), .v (.int .i64 frm), .sl 4 (l.map lnAv)] ∧ isRef h R f ∧ f.n ≤ 268435456 ∧
  ∀ h', isRef h' R (takeOf f kind year frm l).1 → Same h h' (rFoot R) → takeAns (takeOf f kind year frm l) Q h'
attribute [local irreducible] takeOne takeL
set_option maxRecDepth 20000 in
set_option maxHeartbeats 4000000 in
theorem does_rTake : Does Tryz.prog 79 rTakeSpec := by
  refine does_of_awpO 0 (good_cons does_rDocsGet (good_cons does_rDocsOpen (good_cons does_rDocsSet good_nil))) Tryz.func79 rfl (by decide +kernel) (by decide +kernel) ?_
  rintro args h Q ⟨R, f, kind, year, frm, l, hfr, hok, hl, rfl, hR, hfn, hq⟩
  refine ⟨by simp [Tryz.f79], ?_⟩
  rw [awpFuncO_some (by rfl)]
  unfold takeOf at hq
  simp -dsimp only [Vm.G, List.lookup, Nat.reduceAdd, Nat.reduceBEq, Int.reduceBNe, Int.reduceBEq, Nat.reduceLeDiff, q79]
  refine call_one (S := rDocsGetSpec) rfl _ GaL.rfl ⟨R, f, frm, rfl, hR, by omega, fun d own hd hl6 hdl => ?_, fun hn => ?_⟩
  · rw [hd] at hq
    simp only at hq
    simp only [dcCells]
    simp -dsimp only [Vm.G, List.lookup, Nat.reduceAdd, Nat.reduceBEq, Int.reduceBNe, Int.reduceBEq, Nat.reduceLeDiff, q79]
    have h1 := Bool.eq_false_or_eq_true (d.kind != kind)
    rcases h1 with c1 | c1
    · have d1 : d.kind ≠ kind := by simpa using c1
      rw [if_pos (.inl d1)] at hq
      have hq' := (hq h hR (.refl _ _)).2 (show (12 : Int) ≠ 0 by decide)
      simp -dsimp only [Vm.G, List.lookup, Nat.reduceAdd, Nat.reduceBEq, Int.reduceBNe, Int.reduceBEq, Nat.reduceLeDiff, q79, c1]
      exact hq'
    · have d1 : ¬ d.kind ≠ kind := by simpa using c1
      simp -dsimp only [Vm.G, List.lookup, Nat.reduceAdd, Nat.reduceBEq, Int.reduceBNe, Int.reduceBEq, Nat.reduceLeDiff, q79, c1]
      have h2 := Bool.eq_false_or_eq_true (d.year != year)
      rcases h2 with c2 | c2
      · have d2 : d.year ≠ year := by simpa using c2
        rw [if_pos (.inr d2)] at hq
        have hq' := (hq h hR (.refl _ _)).2 (show (12 : Int) ≠ 0 by decide)
        simp -dsimp only [Vm.G, List.lookup, Nat.reduceAdd, Nat.reduceBEq, Int.reduceBNe, Int.reduceBEq, Nat.reduceLeDiff, q79, c2]
        exact hq'
      · have d2 : ¬ d.year ≠ year := by simpa using c2
        rw [if_neg (fun h => h.elim d1 d2)] at hq
        simp -dsimp only [Vm.G, List.lookup, Nat.reduceAdd, Nat.reduceBEq, Int.reduceBNe, Int.reduceBEq, Nat.reduceLeDiff, q79, c2]
        refine awp_loop (fun m s h' => ∃ (i : Nat) (g : Fun) (out : List Dl), i + m = l.length ∧ out.length ≤ i ∧ isRef h' R g ∧ g.n ≤ f.n + i ∧ Same h h' (rFoot R) ∧ takeL frm (l.drop i) g out = takeL frm l f [] ∧ s = mk [(0, .ptr R.iv 0), (3, .v (.int .i64 frm)), (4, .sl 4 (l.map lnAv)), (15, .own true 62 4 ((out).map dlAv)), (16, .v (.int .i64 (i : Nat)))])
          l.length _ (le_mk _ ?_) ⟨0, f, [], by omega, by simp, hR, by omega, .refl _ _, rfl, rfl⟩ ?_
        · simp only [List.forall_mem_cons, List.not_mem_nil, false_imp_iff, implies_true, and_true]
          try simp -dsimp only [Vm.G, List.lookup, Nat.reduceAdd, Nat.reduceBEq, Int.reduceBNe, Int.reduceBEq, Nat.reduceLeDiff, q79]
          repeat' first | exact Fg.refl _ | exact Fg.nil _ _ _ (by decide) | refine And.intro ?_ ?_
        · clear hR hd d1 d2
          rintro m s h' ⟨i, g, out, hi, hol, hR, hgn, hsm, hp, rfl⟩
          simp -dsimp only [Vm.G, List.lookup, Nat.reduceAdd, Nat.reduceBEq, Int.reduceBNe, Int.reduceBEq, Nat.reduceLeDiff, q79]
          refine cond_intro (fun hcc => ?_) (fun hcc => ?_)
          · have hlt : i < l.length := by have := of_decide_eq_true hcc; omega
            have hw : IntKind.i64.wrap ((i : Int) + 1) = ((i + 1 : Nat) : Int) := by rw [wrap_i64 (by omega) (by omega)]; simp
            have hox := hok l[i] (List.getElem_mem hlt)
            rw [List.drop_eq_getElem_cons hlt] at hp
            have hxe : ∃ x, l[i] = x := ⟨_, rfl⟩
            rcases hxe with ⟨x, hx⟩
            rw [hx] at hp hox
            rw [takeL_cons] at hp
            simp -dsimp only [Vm.G, List.lookup, Nat.reduceAdd, Nat.reduceBEq, Int.reduceBNe, Int.reduceBEq, Nat.reduceLeDiff, q79]
            refine call_one (S := rDocsGetSpec) rfl _ GaL.rfl ⟨R, g, frm, rfl, hR, by omega, fun d own hd hl6 hdl => ?_, fun hn => ?_⟩
            · have ho := ownAt_some hd
              simp only [dcCells]
              simp -dsimp only [Vm.G, List.lookup, Nat.reduceAdd, Nat.reduceBEq, Int.reduceBNe, Int.reduceBEq, Nat.reduceLeDiff, q79]
              refine idx_map lnAv l i hlt ?_
              simp only [hx, lnAv, lnCells]
              simp -dsimp only [Vm.G, List.lookup, Nat.reduceAdd, Nat.reduceBEq, Int.reduceBNe, Int.reduceBEq, Nat.reduceLeDiff, q79, AV.cells]
              have h3 := Bool.eq_false_or_eq_true (decide (x.node < 0))
              rcases h3 with c3 | c3
              · have d3 := of_decide_eq_true c3
                rw [takeOne_neg d3] at hp
                have hp : (g, ([] : List Dl), (7 : Int)) = takeL frm l f [] := hp
                rw [← hp] at hq
                have hq' := (hq h' hR hsm).2 (show (7 : Int) ≠ 0 by decide)
                simp -dsimp only [Vm.G, List.lookup, Nat.reduceAdd, Nat.reduceBEq, Int.reduceBNe, Int.reduceBEq, Nat.reduceLeDiff, q79, c3]
                exact hq'
              · have d3 := of_decide_eq_false c3
                simp -dsimp only [Vm.G, List.lookup, Nat.reduceAdd, Nat.reduceBEq, Int.reduceBNe, Int.reduceBEq, Nat.reduceLeDiff, q79, c3]
                have h4 := Bool.eq_false_or_eq_true (decide (x.node ≥ (own.length : Int)))
                rcases h4 with c4 | c4
                · have d4 := of_decide_eq_true c4
                  rw [takeOne_out ho d3 (by omega)] at hp
                  have hp : (g, ([] : List Dl), (7 : Int)) = takeL frm l f [] := hp
                  rw [← hp] at hq
                  have hq' := (hq h' hR hsm).2 (show (7 : Int) ≠ 0 by decide)
                  simp -dsimp only [Vm.G, List.lookup, Nat.reduceAdd, Nat.reduceBEq, Int.reduceBNe, Int.reduceBEq, Nat.reduceLeDiff, q79, c4]
                  exact hq'
                · have d4 := of_decide_eq_false c4
                  have hltn : x.node.toNat < own.length := by omega
                  have hye : ∃ y, own[x.node.toNat]? = some y := ⟨_, List.getElem?_eq_getElem hltn⟩
                  rcases hye with ⟨y, hy⟩
                  have hyo := docAt_ok hd y (List.mem_of_getElem? hy)
                  have hgi : (own.map dlAv)[x.node.toNat]? = some (dlAv y) := by rw [List.getElem?_map, hy]; rfl
                  have hds := docsSet_own (f := g) (id := frm) (i := x.node) { y with liq := w64 (y.liq + x.amt) } (by omega) (by rw [ho]; omega)
                  have hfew := takeOne_few (f := g) (frm := frm) (x := x) ho d3 hy
                  have hyes := takeOne_yes (f := g) (frm := frm) (x := x) ho d3 hy
                  simp -dsimp only [Vm.G, List.lookup, Nat.reduceAdd, Nat.reduceBEq, Int.reduceBNe, Int.reduceBEq, Nat.reduceLeDiff, q79, c4]
                  refine idxO_intro (xs := own.map dlAv) (by omega) (by simp; omega) ?_
                  simp -dsimp only [Vm.G, List.lookup, Nat.reduceAdd, Nat.reduceBEq, Int.reduceBNe, Int.reduceBEq, Nat.reduceLeDiff, q79]
                  refine eltA_intro (xs := own.map dlAv) hgi ?_
                  simp only [dlAv, dlCells]
                  simp -dsimp only [Vm.G, List.lookup, Nat.reduceAdd, Nat.reduceBEq, Int.reduceBNe, Int.reduceBEq, Nat.reduceLeDiff, q79, AV.cells, List.drop_zero]
                  refine draw_cont [] (.take 2 (.take 3 (.take 4 (.take 5 (.take 6 (.alt 0 (.alt 1 (.take 7 (.done)) .stop) .stop)))))) (fun s h2 => h2 = h' ∧ s 78 = .v (.bool (decide (openD y < x.amt))) ∧ s 0 = .ptr R.iv 0 ∧ s 3 = .v (.int .i64 frm) ∧ s 4 = .sl 4 (l.map lnAv) ∧ s 16 = .v (.int .i64 (i : Nat)) ∧ s 15 = .own true 62 4 (out.map dlAv) ∧ s 20 = .v (.int .i64 x.node) ∧ s 21 = .box [.v (.int .i64 y.node), .v (.int .i64 y.orig), .v (.int .i64 y.liq), .v (.int .i64 y.can)]) (by kernel_rfl) (by kernel_rfl) (by kernel_rfl) (by decide) ?_ ?_
                  · clear hq hp
                    simp -dsimp only [Vm.G, List.lookup, Nat.reduceAdd, Nat.reduceBEq, Int.reduceBNe, Int.reduceBEq, Nat.reduceLeDiff, q79]
                    refine idx_map lnAv l i hlt ?_
                    simp only [hx, lnAv, lnCells]
                    simp -dsimp only [Vm.G, List.lookup, Nat.reduceAdd, Nat.reduceBEq, Int.reduceBNe, Int.reduceBEq, Nat.reduceLeDiff, q79, AV.cells]
                    refine call_one (S := openDSpec) rfl _ GaL.rfl ⟨y, rfl, ?_⟩
                    simp -dsimp only [Vm.G, List.lookup, Nat.reduceAdd, Nat.reduceBEq, Int.reduceBNe, Int.reduceBEq, Nat.reduceLeDiff, q79]
                    repeat' first | rfl | exact True.intro | refine And.intro ?_ ?_
                  · rintro s h2 ⟨rfl, e78, e0, e3, e4, e16, e15, e20, e21⟩
                    have h5 := Bool.eq_false_or_eq_true (decide (openD y < x.amt))
                    rcases h5 with c5 | c5
                    · have d5 := of_decide_eq_true c5
                      rw [hfew d5] at hp
                      have hp : (g, ([] : List Dl), (12 : Int)) = takeL frm l f [] := hp
                      rw [← hp] at hq
                      have hq' := (hq h2 hR hsm).2 (show (12 : Int) ≠ 0 by decide)
                      simp -dsimp only [Vm.G, List.lookup, Nat.reduceAdd, Nat.reduceBEq, Int.reduceBNe, Int.reduceBEq, Nat.reduceLeDiff, q79, e78, e0, e3, e4, e16, e15, e20, e21, c5]
                      exact hq'
                    · have d5 := of_decide_eq_false c5
                      rw [hyes d5] at hp
                      have hp : takeL frm (l.drop (i + 1)) (upd g (dlK frm x.node) (some (dlV { y with liq := w64 (y.liq + x.amt) }))) (out ++ [(⟨y.node, x.amt, 0, 0⟩ : Dl)]) = takeL frm l f [] := hp
                      have hy2 : Dl.ok { y with liq := w64 (y.liq + x.amt) } := ⟨hyo.1, hyo.2.1, w64_range _, hyo.2.2.2⟩
                      simp -dsimp only [Vm.G, List.lookup, Nat.reduceAdd, Nat.reduceBEq, Int.reduceBNe, Int.reduceBEq, Nat.reduceLeDiff, q79, e78, e0, e3, e4, e16, e15, e20, e21, c5]
                      refine draw_cont [] (.take 0 (.take 2 (.take 3 (.take 4 (.take 5 (.take 6 (.alt 1 (.take 7 (.take 8 (.alt 9 (.done) .stop))) .stop))))))) (fun s h3 => h3 = h2 ∧ s 0 = .ptr R.iv 0 ∧ s 3 = .v (.int .i64 frm) ∧ s 4 = .sl 4 (l.map lnAv) ∧ s 16 = .v (.int .i64 (i : Nat)) ∧ s 15 = .own true 62 4 (out.map dlAv) ∧ s 20 = .v (.int .i64 x.node) ∧ s 21 = .box [.v (.int .i64 y.node), .v (.int .i64 y.orig), .v (.int .i64 (IntKind.i64.wrap (y.liq + x.amt))), .v (.int .i64 y.can)]) (by kernel_rfl) (by kernel_rfl) (by kernel_rfl) (by decide) ?_ ?_
                      · clear hq hp
                        simp -dsimp only [Vm.G, List.lookup, Nat.reduceAdd, Nat.reduceBEq, Int.reduceBNe, Int.reduceBEq, Nat.reduceLeDiff, q79, e0, e3, e4, e16, e15, e20, e21]
                        refine idx_map lnAv l i hlt ?_
                        simp only [hx, lnAv, lnCells]
                        simp -dsimp only [Vm.G, List.lookup, Nat.reduceAdd, Nat.reduceBEq, Int.reduceBNe, Int.reduceBEq, Nat.reduceLeDiff, q79, AV.cells, e0, e3, e4, e16, e15, e20, e21]
                        repeat' first | rfl | exact True.intro | refine And.intro ?_ ?_
                      · rintro s h3 ⟨rfl, f0, f3, f4, f16, f15, f20, f21⟩
                        simp -dsimp only [Vm.G, List.lookup, Nat.reduceAdd, Nat.reduceBEq, Int.reduceBNe, Int.reduceBEq, Nat.reduceLeDiff, q79, f0, f3, f4, f16, f15, f20, f21]
                        refine call_one (S := rDocsSetSpec) rfl _ GaL.rfl ⟨R, g, frm, x.node, { y with liq := w64 (y.liq + x.amt) }, hfr, hox.2.2.1, hy2, rfl, hR, by omega, fun h4 g1 g2 => ?_⟩
                        rw [hds] at g1 ⊢
                        simp only at g1 ⊢
                        simp -dsimp only [Vm.G, List.lookup, Nat.reduceAdd, Nat.reduceBEq, Int.reduceBNe, Int.reduceBEq, Nat.reduceLeDiff, q79, f0, f3, f4, f16, f15, f20, f21]
                        refine draw_cont [21] (.take 0 (.take 1 (.take 2 (.take 3 (.take 4 (.take 5 (.take 6 (.take 7 (.alt 8 (.alt 9 (.alt 10 (.alt 11 (.done) .stop) .stop) .stop) .stop))))))))) (fun s h5 => h5 = h4 ∧ s 0 = .ptr R.iv 0 ∧ s 3 = .v (.int .i64 frm) ∧ s 4 = .sl 4 (l.map lnAv) ∧ s 16 = .v (.int .i64 (i : Nat)) ∧ s 15 = .own true 62 4 ((out ++ [(⟨y.node, x.amt, 0, 0⟩ : Dl)]).map dlAv)) (by kernel_rfl) (by kernel_rfl) (by kernel_rfl) (by decide) ?_ ?_
                        · clear hq hp
                          simp -dsimp only [Vm.G, List.lookup, Nat.reduceAdd, Nat.reduceBEq, Int.reduceBNe, Int.reduceBEq, Nat.reduceLeDiff, q79, f0, f3, f4, f16, f15, f20, f21]
                          refine idx_map lnAv l i hlt ?_
                          simp only [hx, lnAv, lnCells]
                          simp -dsimp only [Vm.G, List.lookup, Nat.reduceAdd, Nat.reduceBEq, Int.reduceBNe, Int.reduceBEq, Nat.reduceLeDiff, q79, AV.cells, f0, f3, f4, f16, f15, f20, f21]
                          refine bs_intro zr62 (by decide) (by decide) rfl rfl (by simp [solid, AV.cells]) ?_
                          simp -dsimp only [Vm.G, List.lookup, Nat.reduceAdd, Nat.reduceBEq, Int.reduceBNe, Int.reduceBEq, Nat.reduceLeDiff, q79, f0, f3, f4, f16, f15, f20, f21]
                          refine app_sl Tryz.underlying55 (by simp [AV.cells]) (by simp only [List.length_map, List.length_cons, List.length_nil]; omega) ?_
                          simp -dsimp only [Vm.G, List.lookup, Nat.reduceAdd, Nat.reduceBEq, Int.reduceBNe, Int.reduceBEq, Nat.reduceLeDiff, q79, f0, f3, f4, f16, f15, f20, f21]
                          simp only [List.map_append, List.map_cons, List.map_nil, dlAv, dlCells]
                          repeat' first | rfl | exact True.intro | refine And.intro ?_ ?_
                        · rintro s h5 ⟨rfl, k0, k3, k4, k16, k15⟩
                          simp -dsimp only [Vm.G, List.lookup, Nat.reduceAdd, Nat.reduceBEq, Int.reduceBNe, Int.reduceBEq, Nat.reduceLeDiff, q79, k0, k3, k4, k16, k15]
                          refine kept_intro ⟨l.length - (i + 1), by omega, _, le_mk [(0, .ptr R.iv 0), (3, .v (.int .i64 frm)), (4, .sl 4 (l.map lnAv)), (15, .own true 62 4 ((out ++ [(⟨y.node, x.amt, 0, 0⟩ : Dl)]).map dlAv)), (16, .v (.int .i64 (i + 1 : Nat)))] ?_, i + 1, _, out ++ [(⟨y.node, x.amt, 0, 0⟩ : Dl)], by omega, by rw [List.length_append, List.length_singleton]; omega, g1, by show g.n + 1 ≤ _; omega, hsm.trans g2, hp, rfl⟩
                          simp only [List.forall_mem_cons, List.not_mem_nil, false_imp_iff, implies_true, and_true, hw, k0, k3, k4, k16, k15]
                          try simp -dsimp only [Vm.G, List.lookup, Nat.reduceAdd, Nat.reduceBEq, Int.reduceBNe, Int.reduceBEq, Nat.reduceLeDiff, q79, hw, k0, k3, k4, k16, k15]
                          repeat' first | exact Fg.refl _ | exact Fg.nil _ _ _ (by decide) | refine And.intro ?_ ?_
            · have ho := ownAt_none hn
              simp only [dcCells, Dc.zero]
              simp -dsimp only [Vm.G, List.lookup, Nat.reduceAdd, Nat.reduceBEq, Int.reduceBNe, Int.reduceBEq, Nat.reduceLeDiff, q79]
              refine idx_map lnAv l i hlt ?_
              simp only [hx, lnAv, lnCells]
              simp -dsimp only [Vm.G, List.lookup, Nat.reduceAdd, Nat.reduceBEq, Int.reduceBNe, Int.reduceBEq, Nat.reduceLeDiff, q79, AV.cells]
              have h3 := Bool.eq_false_or_eq_true (decide (x.node < 0))
              rcases h3 with c3 | c3
              · have d3 := of_decide_eq_true c3
                rw [takeOne_neg d3] at hp
                have hp : (g, ([] : List Dl), (7 : Int)) = takeL frm l f [] := hp
                rw [← hp] at hq
                have hq' := (hq h' hR hsm).2 (show (7 : Int) ≠ 0 by decide)
                simp -dsimp only [Vm.G, List.lookup, Nat.reduceAdd, Nat.reduceBEq, Int.reduceBNe, Int.reduceBEq, Nat.reduceLeDiff, q79, c3]
                exact hq'
              · have d3 := of_decide_eq_false c3
                have c4 : decide (x.node ≥ 0) = true := decide_eq_true (by omega)
                rw [takeOne_out ho d3 (by simp)] at hp
                have hp : (g, ([] : List Dl), (7 : Int)) = takeL frm l f [] := hp
                rw [← hp] at hq
                have hq' := (hq h' hR hsm).2 (show (7 : Int) ≠ 0 by decide)
                simp -dsimp only [Vm.G, List.lookup, Nat.reduceAdd, Nat.reduceBEq, Int.reduceBNe, Int.reduceBEq, Nat.reduceLeDiff, q79, c3, c4]
                exact hq'
          · have hge : ¬ i < l.length := by have := of_decide_eq_false hcc; omega
            rw [List.drop_of_length_le (by omega)] at hp
            have hp : (g, out, (0 : Int)) = takeL frm l f [] := by rw [← hp]; simp only [takeL]
            rw [← hp] at hq
            have hq' := (hq h' hR hsm).1 rfl
            simp -dsimp only [Vm.G, List.lookup, Nat.reduceAdd, Nat.reduceBEq, Int.reduceBNe, Int.reduceBEq, Nat.reduceLeDiff, q79]
            exact hq'
  · rw [hn] at hq
    have hq' := (hq h hR (.refl _ _)).2 (show (7 : Int) ≠ 0 by decide)
    simp only [dcCells, Dc.zero]
    simp -dsimp only [Vm.G, List.lookup, Nat.reduceAdd, Nat.reduceBEq, Int.reduceBNe, Int.reduceBEq, Nat.reduceLeDiff, q79]
    exact hq'
theorem mkE_R {frm : Int} {x : Dl} (hx : x.ok) : mkE frm x = mkR (if frm ≠ 0 then -1 else 0) 1 0 x := by
  unfold mkE mkR
  by_cases h : frm ≠ 0
  · rw [if_pos h, if_pos h, Int.one_mul, Int.zero_mul, w64_i64 hx.2.1, Int.neg_mul, Int.one_mul, Int.zero_sub]
    rfl
  · rw [if_neg h, if_neg h, Int.one_mul, Int.zero_mul, w64_i64 hx.2.1]
    rfl
theorem chargeE_R (frm year : Int) (l : List Dl) (f : Fun) (hl : ∀ x ∈ l, x.ok) : chargeG (mkE frm) year l f false = chargeG (mkR (if frm ≠ 0 then -1 else 0) 1 0) year l f false :=
  chargeG_congr year l f false fun x hx => mkE_R (hl x hx)
def rEncNewSpec : Vm.Spec := fun args h Q => ∃ (R : RId) (f : Fun) (year frm : Int) (l : List Ln), I64 year ∧ I64 frm ∧ l.length ≤ 1048576 ∧ (∀ x ∈ l, x.ok) ∧ args = [.ptr R.iv 0, .v (.int .i64 year), .v (.int .i64 frm), .sl 4 (l.map lnAv)] ∧ isRef h R f ∧ f.n ≤ 134217728 ∧
  ∀ h', isRef h' R (encNew f year frm l).1 → Same h h' (rFoot R) → Q (.tup [.v (.int .i64 (encNew f year frm l).2.1), .v (.bool (encNew f year frm l).2.2.1), .v (.int .i64 (encNew f year frm l).2.2.2)]) h'
attribute [local irreducible] takeOf chargeOf chargeG docsPut
set_option maxHeartbeats 4000000 in
theorem does_rEncNew : Does Tryz.prog 77 rEncNewSpec := by
  refine does_of_awp (good_cons does_rFirst (good_cons does_rLines (good_cons does_rTake (good_cons does_rChargeL (good_cons does_rDocsPut good_nil))))) Tryz.func77 rfl (by decide +kernel) (by decide +kernel) ?_
  rintro args h Q ⟨R, f, year, frm, l, hy, hfr, hl, hok, rfl, hR, hfn, hq⟩
  refine ⟨by simp [Tryz.f77], ?_⟩
  rw [awpFunc_some (by rfl)]
  unfold encNew at hq
  simp -dsimp only [Vm.G, List.lookup, Nat.reduceAdd, Nat.reduceBEq, Int.reduceBNe, Int.reduceBEq, Nat.reduceLeDiff, q77]
  refine call_one (S := rFirstSpec) rfl _ GaL.rfl ⟨R, f, year, l, by omega, rfl, hR, by omega, ?_⟩
  have hfo : firstOf f year l = if checkY f year ≠ 0 then checkY f year else preCheck l := rfl
  generalize firstOf f year l = e at hfo ⊢
  simp -dsimp only [Vm.G, List.lookup, Nat.reduceAdd, Nat.reduceBEq, Int.reduceBNe, Int.reduceBEq, Nat.reduceLeDiff, q77]
  by_cases d1 : checkY f year ≠ 0
  · simp only [if_pos d1] at hq hfo
    have c1 : (e != 0) = true := by rw [hfo]; simpa using d1
    rw [← hfo] at hq
    simp -dsimp only [Vm.G, List.lookup, Nat.reduceAdd, Nat.reduceBEq, Int.reduceBNe, Int.reduceBEq, Nat.reduceLeDiff, q77, c1]
    exact hq h hR (.refl _ _)
  · simp only [if_neg d1] at hq hfo
    by_cases d2 : preCheck l ≠ 0
    · simp only [if_pos d2] at hq
      have c1 : (e != 0) = true := by rw [hfo]; simpa using d2
      rw [← hfo] at hq
      simp -dsimp only [Vm.G, List.lookup, Nat.reduceAdd, Nat.reduceBEq, Int.reduceBNe, Int.reduceBEq, Nat.reduceLeDiff, q77, c1]
      exact hq h hR (.refl _ _)
    · simp only [if_neg d2] at hq
      have c1 : (e != 0) = false := by rw [hfo]; simpa using d2
      have hl6 := preCheck_len d2
      have hln := linesFrom_n f year frm l
      have hlo := linesFrom_ok f year frm l hok
      have hG := chargeE_R frm year (linesFrom f year frm l).2.1 (linesFrom f year frm l).1 hlo
      have hcn := chargeG_n (mkR (if frm ≠ 0 then -1 else 0) 1 0) year (linesFrom f year frm l).2.1 (linesFrom f year frm l).1 false
      rw [hG] at hq
      clear hG
      have hlf : linesFrom f year frm l = if frm ≠ 0 then takeOf f 1 year frm l else (f, ownL l, 0) := rfl
      simp -dsimp only [Vm.G, List.lookup, Nat.reduceAdd, Nat.reduceBEq, Int.reduceBNe, Int.reduceBEq, Nat.reduceLeDiff, q77, c1]
      refine call_one (S := linesSpec) rfl _ GaL.rfl ⟨l, by omega, rfl, ?_⟩
      simp -dsimp only [Vm.G, List.lookup, Nat.reduceAdd, Nat.reduceBEq, Int.reduceBNe, Int.reduceBEq, Nat.reduceLeDiff, q77]
      have h2 := Bool.eq_false_or_eq_true (frm != 0)
      rcases h2 with c2 | c2
      · have d2 : frm ≠ 0 := by simpa using c2
        rw [if_pos d2] at hlf
        rw [hlf] at hq hln hlo hcn
        simp only [if_pos d2] at hq hcn
        simp -dsimp only [Vm.G, List.lookup, Nat.reduceAdd, Nat.reduceBEq, Int.reduceBNe, Int.reduceBEq, Nat.reduceLeDiff, q77, c2]
        refine call_one (S := rTakeSpec) rfl _ GaL.rfl ⟨R, f, 1, year, frm, l, hfr, hok, hl, rfl, hR, by omega, fun h2 g1 g2 => ?_⟩
        clear hlf
        generalize takeOf f 1 year frm l = q at hq g1 hln hlo hcn ⊢
        rcases q with ⟨qf, qo, qe⟩
        simp only at hq g1 hln hlo hcn
        refine ⟨fun he => ?_, fun he => ?_⟩
        · have he : qe = 0 := he
          subst he
          simp only [ne_eq, not_true_eq_false, if_false] at hq
          simp only
          simp -dsimp only [Vm.G, List.lookup, Nat.reduceAdd, Nat.reduceBEq, Int.reduceBNe, Int.reduceBEq, Nat.reduceLeDiff, q77, bne_self_eq_false]
          refine call_one (S := rChargeLSpec) rfl _ GaL.rfl ⟨R, qf, year, qo, (-1), 1, 0, by omega, rfl, g1, by omega, fun h3 k1 k2 => ?_⟩
          generalize chargeG (mkR (-1) 1 0) year qo qf false = r at hq k1 hcn ⊢
          rcases r with ⟨rf, rw1, re⟩
          simp only at hq k1 hcn ⊢
          simp -dsimp only [Vm.G, List.lookup, Nat.reduceAdd, Nat.reduceBEq, Int.reduceBNe, Int.reduceBEq, Nat.reduceLeDiff, q77]
          have h3 := Bool.eq_false_or_eq_true (re != 0)
          rcases h3 with c3 | c3
          · have d3 : re ≠ 0 := by simpa using c3
            simp only [if_pos d3] at hq
            simp -dsimp only [Vm.G, List.lookup, Nat.reduceAdd, Nat.reduceBEq, Int.reduceBNe, Int.reduceBEq, Nat.reduceLeDiff, q77, c3]
            exact hq _ k1 (g2.trans k2)
          · have d3 : ¬ re ≠ 0 := by simpa using c3
            simp only [if_neg d3] at hq
            have z0 : I64 0 := by unfold I64; omega
            have z2 : I64 2 := by unfold I64; omega
            simp -dsimp only [Vm.G, List.lookup, Nat.reduceAdd, Nat.reduceBEq, Int.reduceBNe, Int.reduceBEq, Nat.reduceLeDiff, q77, c3]
            refine call_one (S := rDocsPutSpec) rfl _ GaL.rfl ⟨R, rf, ⟨0, 2, year, frm, 0⟩, qo, ⟨z0, z2, hy, hfr, z0⟩, hlo, rfl, k1, by omega, fun h4 m1 m2 => ?_⟩
            have hno := docsPut_no (f := rf) (d := ⟨0, 2, year, frm, 0⟩) (l := qo)
            generalize docsPut rf ⟨0, 2, year, frm, 0⟩ qo = t at hq m1 hno ⊢
            rcases t with ⟨tf, ti, te⟩
            simp only at hq m1 hno ⊢
            have hq' := hq h4 m1 ((g2.trans k2).trans m2)
            simp -dsimp only [Vm.G, List.lookup, Nat.reduceAdd, Nat.reduceBEq, Int.reduceBNe, Int.reduceBEq, Nat.reduceLeDiff, q77]
            have h5 := Bool.eq_false_or_eq_true (te != 0)
            rcases h5 with c5 | c5
            · have d5 : te ≠ 0 := by simpa using c5
              have e5 : (te == 0) = false := by simpa using d5
              rw [hno d5, e5, Bool.and_false] at hq'
              simp -dsimp only [Vm.G, List.lookup, Nat.reduceAdd, Nat.reduceBEq, Int.reduceBNe, Int.reduceBEq, Nat.reduceLeDiff, q77, c5]
              exact hq'
            · have d5 : te = 0 := by simpa using c5
              subst d5
              rw [beq_self_eq_true, Bool.and_true] at hq'
              simp -dsimp only [Vm.G, List.lookup, Nat.reduceAdd, Nat.reduceBEq, Int.reduceBNe, Int.reduceBEq, Nat.reduceLeDiff, q77, c5]
              exact hq'
        · have he : qe ≠ 0 := he
          simp only [if_pos he] at hq
          have c4 : (qe != 0) = true := by simpa using he
          simp only
          simp -dsimp only [Vm.G, List.lookup, Nat.reduceAdd, Nat.reduceBEq, Int.reduceBNe, Int.reduceBEq, Nat.reduceLeDiff, q77, c4]
          exact hq h2 g1 g2
      · have d2 : ¬ frm ≠ 0 := by simpa using c2
        rw [if_neg d2] at hlf
        rw [hlf] at hq hln hlo hcn
        simp only [if_neg d2, ne_eq, not_true_eq_false, if_false] at hq hcn
        simp only at hln hlo
        clear hlf
        have g1 := hR
        have g2 : Same h h (rFoot R) := .refl _ _
        have hqf : ∃ qf, qf = f := ⟨_, rfl⟩
        rcases hqf with ⟨qf, hqf⟩
        have hqn : qf.n = f.n := by rw [hqf]
        rw [← hqf] at g1 hcn hq
        have hqo : ∃ qo, qo = ownL l := ⟨_, rfl⟩
        rcases hqo with ⟨qo, hqo⟩
        rw [← hqo] at hq hln hlo hcn ⊢
        simp -dsimp only [Vm.G, List.lookup, Nat.reduceAdd, Nat.reduceBEq, Int.reduceBNe, Int.reduceBEq, Nat.reduceLeDiff, q77, c2]
        refine call_one (S := rChargeLSpec) rfl _ GaL.rfl ⟨R, qf, year, qo, 0, 1, 0, by omega, rfl, g1, by omega, fun h3 k1 k2 => ?_⟩
        generalize chargeG (mkR 0 1 0) year qo qf false = r at hq k1 hcn ⊢
        rcases r with ⟨rf, rw1, re⟩
        simp only at hq k1 hcn ⊢
        simp -dsimp only [Vm.G, List.lookup, Nat.reduceAdd, Nat.reduceBEq, Int.reduceBNe, Int.reduceBEq, Nat.reduceLeDiff, q77]
        have h3 := Bool.eq_false_or_eq_true (re != 0)
        rcases h3 with c3 | c3
        · have d3 : re ≠ 0 := by simpa using c3
          simp only [if_pos d3] at hq
          simp -dsimp only [Vm.G, List.lookup, Nat.reduceAdd, Nat.reduceBEq, Int.reduceBNe, Int.reduceBEq, Nat.reduceLeDiff, q77, c3]
          exact hq _ k1 (g2.trans k2)
        · have d3 : ¬ re ≠ 0 := by simpa using c3
          simp only [if_neg d3] at hq
          have z0 : I64 0 := by unfold I64; omega
          have z2 : I64 2 := by unfold I64; omega
          simp -dsimp only [Vm.G, List.lookup, Nat.reduceAdd, Nat.reduceBEq, Int.reduceBNe, Int.reduceBEq, Nat.reduceLeDiff, q77, c3]
          refine call_one (S := rDocsPutSpec) rfl _ GaL.rfl ⟨R, rf, ⟨0, 2, year, frm, 0⟩, qo, ⟨z0, z2, hy, hfr, z0⟩, hlo, rfl, k1, by omega, fun h4 m1 m2 => ?_⟩
          have hno := docsPut_no (f := rf) (d := ⟨0, 2, year, frm, 0⟩) (l := qo)
          generalize docsPut rf ⟨0, 2, year, frm, 0⟩ qo = t at hq m1 hno ⊢
          rcases t with ⟨tf, ti, te⟩
          simp only at hq m1 hno ⊢
          have hq' := hq h4 m1 ((g2.trans k2).trans m2)
          simp -dsimp only [Vm.G, List.lookup, Nat.reduceAdd, Nat.reduceBEq, Int.reduceBNe, Int.reduceBEq, Nat.reduceLeDiff, q77]
          have h5 := Bool.eq_false_or_eq_true (te != 0)
          rcases h5 with c5 | c5
          · have d5 : te ≠ 0 := by simpa using c5
            have e5 : (te == 0) = false := by simpa using d5
            rw [hno d5, e5, Bool.and_false] at hq'
            simp -dsimp only [Vm.G, List.lookup, Nat.reduceAdd, Nat.reduceBEq, Int.reduceBNe, Int.reduceBEq, Nat.reduceLeDiff, q77, c5]
            exact hq'
          · have d5 : te = 0 := by simpa using c5
            subst d5
            rw [beq_self_eq_true, Bool.and_true] at hq'
            simp -dsimp only [Vm.G, List.lookup, Nat.reduceAdd, Nat.reduceBEq, Int.reduceBNe, Int.reduceBEq, Nat.reduceLeDiff, q77, c5]
            exact hq'
end Go.Proofs.Lx
/- The law EncNew. -/
set_option linter.unusedSimpArgs false
set_option linter.unusedVariables false
namespace Go.Proofs.Lx
open Go.Vm
attribute [local irreducible] awpArr awpBin awpMake awpAppend awpCvX awpStrOf awpBinX awpSlice awpBS awpStore awpAlloc awpCopy awpIndex awpDraw awpIdxX awpFa awpField awpLookup awpUpdate awpDelete awpClear awpRange awpNext awpEntry awpBuild awpClearS awpIdxL awpTree appB awpIdxO eltA treeA
def eqOwnDl : Vm.Spec := fun args h Q => ∃ l : List Dl, l.length ≤ 9223372036854775807 ∧ args = [.sl 4 (l.map dlAv), .sl 4 (l.map dlAv)] ∧ Q (.v (.bool true)) h
theorem does_eqOwnDl : Does Tryz.prog 38 eqOwnDl := does_eqDl.imp (by
  rintro args h Q ⟨l, hl, rfl, hq⟩
  exact ⟨l, l, hl, rfl, fun b hb => by rw [hb.2 rfl]; exact hq⟩)
set_option maxHeartbeats 1000000 in
theorem does_end32 : Does Tryz.prog 76 endSpec := by
  refine does_of_awp (good_cons does_commit (good_cons does_rCom (good_cons does_abort (good_cons does_rAb (good_cons does_sames good_nil))))) Tryz.func76 rfl (by decide +kernel) (by decide +kernel) ?_
  rintro args h Q ⟨V, R, f, g, e, rfl, hB, hfn, hgn, hq⟩
  refine ⟨by simp [Tryz.f76], ?_⟩
  rw [awpFunc_some (by rfl)]
  unfold turnF at hq
  simp -dsimp only [Vm.G, List.lookup, Nat.reduceAdd, Nat.reduceBEq, Int.reduceBNe, Int.reduceBEq, Nat.reduceLeDiff, q76]
  have h0 := Bool.eq_false_or_eq_true (e == 0)
  rcases h0 with c | c
  · rw [if_pos (by simpa using c)] at hq
    simp -dsimp only [Vm.G, List.lookup, Nat.reduceAdd, Nat.reduceBEq, Int.reduceBNe, Int.reduceBEq, Nat.reduceLeDiff, q76, c]
    refine call_one (S := commitSpec) rfl _ GaL.rfl ⟨V, f, rfl, hB.1.1, hfn, fun h1 g1 g2 g3 => ?_⟩
    have hR1 : isRef h1 R f := hB.1.2.1.same g3 fun i hi hm => by
      simp only [List.mem_cons, List.not_mem_nil, or_false] at hm
      rcases hm with rfl | rfl
      · exact hB.1.2.2 V.ic (by simp) hi
      · exact hB.1.2.2 V.im (by simp) hi
    simp -dsimp only [Vm.G, List.lookup, Nat.reduceAdd, Nat.reduceBEq, Int.reduceBNe, Int.reduceBEq, Nat.reduceLeDiff, q76]
    refine call_one (S := rComSpec) rfl _ GaL.rfl ⟨R, f, rfl, hR1, fun h2 k1 k2 k3 => ?_⟩
    have hB2 := both_turn hB.1 g1 g3 k1 k3 g2 k2 (.inl rfl)
    simp -dsimp only [Vm.G, List.lookup, Nat.reduceAdd, Nat.reduceBEq, Int.reduceBNe, Int.reduceBEq, Nat.reduceLeDiff, q76]
    refine call_one (S := samesSpec) rfl _ GaL.rfl ⟨V, rComId R h1, f, rfl, hB2.1, hfn, fun h3 hB3 hs3 => ?_⟩
    simp -dsimp only [Vm.G, List.lookup, Nat.reduceAdd, Nat.reduceBEq, Int.reduceBNe, Int.reduceBEq, Nat.reduceLeDiff, q76]
    exact hq (rComId R h1) h3 rfl (Both.quietB hB2 hB3 hs3)
  · rw [if_neg (by simpa using c)] at hq
    simp -dsimp only [Vm.G, List.lookup, Nat.reduceAdd, Nat.reduceBEq, Int.reduceBNe, Int.reduceBEq, Nat.reduceLeDiff, q76, c]
    refine call_one (S := abortSpec) rfl _ GaL.rfl ⟨V, f, g, rfl, hB.1.1, hB.2.1, fun h1 g1 g2 g3 => ?_⟩
    have hd : ∀ i ∈ [R.iv, R.iw, R.inn, R.it], i ∉ [V.ic] := fun i hi hm => by
      simp only [List.mem_cons, List.not_mem_nil, or_false] at hm
      subst hm
      exact hB.1.2.2 V.ic (by simp) hi
    have hR1 : isRef h1 R f := hB.1.2.1.same g3 hd
    have hW1 : wasR h1 R g := hB.2.2.same g3 (hd _ (by simp))
    have g3' : Same h h1 [V.ic, V.im] := ⟨g3.1, fun i hi hm => g3.2 i hi (by simp at hm ⊢; exact hm.1)⟩
    simp -dsimp only [Vm.G, List.lookup, Nat.reduceAdd, Nat.reduceBEq, Int.reduceBNe, Int.reduceBEq, Nat.reduceLeDiff, q76]
    refine call_one (S := rAbSpec) rfl _ GaL.rfl ⟨R, f, g, rfl, hR1, hW1, fun h2 k1 k2 k3 => ?_⟩
    have hB2 := both_turn hB.1 g1 g3' k1 k3 g2 k2 (.inr rfl)
    simp -dsimp only [Vm.G, List.lookup, Nat.reduceAdd, Nat.reduceBEq, Int.reduceBNe, Int.reduceBEq, Nat.reduceLeDiff, q76]
    refine call_one (S := samesSpec) rfl _ GaL.rfl ⟨V, rAbId R h1, g, rfl, hB2.1, hgn, fun h3 hB3 hs3 => ?_⟩
    simp -dsimp only [Vm.G, List.lookup, Nat.reduceAdd, Nat.reduceBEq, Int.reduceBNe, Int.reduceBEq, Nat.reduceLeDiff, q76]
    exact hq (rAbId R h1) h3 rfl (Both.quietB hB2 hB3 hs3)
set_option maxRecDepth 20000 in
set_option maxHeartbeats 1000000 in
theorem does_begunW32 : Does Tryz.prog 56 begunWSpec := by
  refine does_of_awp (good_cons does_vnewW (good_cons does_rNewW (good_cons does_yOpen (good_cons does_rOpen (good_cons does_tput (good_cons does_rtPut good_nil)))))) Tryz.func56 rfl (by decide +kernel) (by decide +kernel) ?_
  rintro args h Q ⟨l, hl, hok, rfl, hq⟩
  refine ⟨by simp [Tryz.f56], ?_⟩
  rw [awpFunc_some (by rfl)]
  simp -dsimp only [Vm.G, List.lookup, Nat.reduceAdd, Nat.reduceBEq, Int.reduceBNe, Int.reduceBEq, Nat.reduceLeDiff, q56]
  refine call_one (S := vnewWSpec) rfl _ GaL.rfl ⟨rfl, fun V h00 hV00 hm00 => ?_⟩
  simp -dsimp only [Vm.G, List.lookup, Nat.reduceAdd, Nat.reduceBEq, Int.reduceBNe, Int.reduceBEq, Nat.reduceLeDiff, q56]
  refine call_one (S := rNewWSpec) rfl _ (.cons (.nil 2) .nil) ⟨V, rfl, hV00, hm00, fun R h0 hB0 => ?_⟩
  clear hV00 hm00
  simp -dsimp only [Vm.G, List.lookup, Nat.reduceAdd, Nat.reduceBEq, Int.reduceBNe, Int.reduceBEq, Nat.reduceLeDiff, q56]
  refine call_one (S := yOpenSpec) rfl _ GaL.rfl ⟨V, noF, 2020, rfl, hB0.1.1, fun h1 g1 g2 => ?_⟩
  simp -dsimp only [Vm.G, List.lookup, Nat.reduceAdd, Nat.reduceBEq, Int.reduceBNe, Int.reduceBEq, Nat.reduceLeDiff, q56]
  refine call_one (S := rOpenSpec) rfl _ GaL.rfl ⟨R, noF, 2020, rfl, hB0.1.view g1 g2, by decide, fun h2 g3 g4 => ?_⟩
  have hB1 := hB0.step g1 g2 g3 g4
  clear hB0 g1 g2 g3 g4
  simp -dsimp only [Vm.G, List.lookup, Nat.reduceAdd, Nat.reduceBEq, Int.reduceBNe, Int.reduceBEq, Nat.reduceLeDiff, q56]
  refine awp_loop (fun m s h' => ∃ i : Nat, i + m = l.length ∧ BothW h' V R (begunF (l.take i)) noF ∧ s = mk [(4, .ptr V.iv 0), (5, .ptr R.iv 0), (14, .sl 12 (l.map ndAv)), (15, .v (.int .i64 l.length)), (16, .v (.int .i64 (i : Nat)))])
    l.length _ (le_mk _ ?_) ⟨0, by omega, hB1, rfl⟩ ?_
  · simp only [List.forall_mem_cons, List.not_mem_nil, false_imp_iff, implies_true, and_true]
    try simp -dsimp only [Vm.G, List.lookup, Nat.reduceAdd, Nat.reduceBEq, Int.reduceBNe, Int.reduceBEq, Nat.reduceLeDiff, q56]
    repeat' first | exact Fg.refl _ | exact Fg.nil _ _ _ (by decide) | refine And.intro ?_ ?_
  · clear hB1
    rintro m s h' ⟨i, hi, hB, rfl⟩
    simp -dsimp only [Vm.G, List.lookup, Nat.reduceAdd, Nat.reduceBEq, Int.reduceBNe, Int.reduceBEq, Nat.reduceLeDiff, q56]
    refine cond_intro (fun hcc => ?_) (fun hcc => ?_)
    · have hlt : i < l.length := by have := of_decide_eq_true hcc; omega
      have hw : IntKind.i64.wrap ((i : Int) + 1) = ((i + 1 : Nat) : Int) := by rw [wrap_i64 (by omega) (by omega)]; simp
      have hfn := begunF_n (l.take i)
      have htl : (l.take i).length ≤ i := by rw [List.length_take]; omega
      have est : begunF (l.take (i + 1)) = putN (begunF (l.take i)) l[i] := by
        unfold begunF
        rw [List.take_succ_eq_append_getElem hlt, List.foldl_append]; rfl
      have ho := hok l[i] (List.getElem_mem hlt)
      simp -dsimp only [Vm.G, List.lookup, Nat.reduceAdd, Nat.reduceBEq, Int.reduceBNe, Int.reduceBEq, Nat.reduceLeDiff, q56]
      refine idx_map ndAv l i hlt ?_
      generalize l[i] = n at est ho
      have hok2 : (yr20 n).ok := ⟨by show I64 2020; unfold I64; omega, ho.2⟩
      simp only [ndAv, ndCells]
      simp -dsimp only [Vm.G, List.lookup, Nat.reduceAdd, Nat.reduceBEq, Int.reduceBNe, Int.reduceBEq, Nat.reduceLeDiff, q56, AV.cells]
      refine call_one (S := tputSpec) rfl _ GaL.rfl ⟨V, begunF (l.take i), yr20 n, rfl, hok2, hB.1.1, fun h2 g1 g2 => ?_⟩
      simp -dsimp only [Vm.G, List.lookup, Nat.reduceAdd, Nat.reduceBEq, Int.reduceBNe, Int.reduceBEq, Nat.reduceLeDiff, q56]
      refine call_one (S := rtPutSpec) rfl _ GaL.rfl ⟨R, begunF (l.take i), yr20 n, rfl, hok2, hB.1.view g1 g2, by omega, fun h3 g3 g4 => ?_⟩
      have hB2 := hB.step g1 g2 g3 g4
      have hB2 : BothW h3 V R (begunF (l.take (i + 1))) noF := by rw [est]; exact hB2
      simp -dsimp only [Vm.G, List.lookup, Nat.reduceAdd, Nat.reduceBEq, Int.reduceBNe, Int.reduceBEq, Nat.reduceLeDiff, q56]
      refine kept_intro ⟨l.length - (i + 1), by omega, _, le_mk [(4, .ptr V.iv 0), (5, .ptr R.iv 0), (14, .sl 12 (l.map ndAv)), (15, .v (.int .i64 l.length)), (16, .v (.int .i64 (i + 1 : Nat)))] ?_, i + 1, by omega, hB2, rfl⟩
      simp only [List.forall_mem_cons, List.not_mem_nil, false_imp_iff, implies_true, and_true, hw]
      try simp -dsimp only [Vm.G, List.lookup, Nat.reduceAdd, Nat.reduceBEq, Int.reduceBNe, Int.reduceBEq, Nat.reduceLeDiff, q56, hw]
      repeat' first | exact Fg.refl _ | exact Fg.nil _ _ _ (by decide) | refine And.intro ?_ ?_
    · have hge : ¬ i < l.length := by have := of_decide_eq_false hcc; omega
      rw [List.take_of_length_le (by omega)] at hB
      simp -dsimp only [Vm.G, List.lookup, Nat.reduceAdd, Nat.reduceBEq, Int.reduceBNe, Int.reduceBEq, Nat.reduceLeDiff, q56]
      exact hq V R h' hB
set_option maxHeartbeats 1000000 in
theorem does_few32 : Does Tryz.prog 75 fewWSpec := by
  refine does_of_awp good_nil Tryz.func75 rfl (by decide +kernel) (by decide +kernel) ?_
  rintro args h Q ⟨ns, l, hl, rfl, hq⟩
  refine ⟨by simp [Tryz.f75], ?_⟩
  rw [awpFunc_some (by rfl)]
  simp -dsimp only [Vm.G, List.lookup, Nat.reduceAdd, Nat.reduceBEq, Int.reduceBNe, Int.reduceBEq, Nat.reduceLeDiff, q75]
  have h1 := Bool.eq_false_or_eq_true (decide ((ns.length : Int) > 20))
  rcases h1 with c1 | c1
  · simp -dsimp only [Vm.G, List.lookup, Nat.reduceAdd, Nat.reduceBEq, Int.reduceBNe, Int.reduceBEq, Nat.reduceLeDiff, q75, c1]
    exact hq false fun h => by cases h
  · have d1 := of_decide_eq_false c1
    simp -dsimp only [Vm.G, List.lookup, Nat.reduceAdd, Nat.reduceBEq, Int.reduceBNe, Int.reduceBEq, Nat.reduceLeDiff, q75, c1]
    have h2 := Bool.eq_false_or_eq_true (decide ((l.length : Int) > 20))
    rcases h2 with c2 | c2
    · simp -dsimp only [Vm.G, List.lookup, Nat.reduceAdd, Nat.reduceBEq, Int.reduceBNe, Int.reduceBEq, Nat.reduceLeDiff, q75, c2]
      exact hq false fun h => by cases h
    · have d2 := of_decide_eq_false c2
      simp -dsimp only [Vm.G, List.lookup, Nat.reduceAdd, Nat.reduceBEq, Int.reduceBNe, Int.reduceBEq, Nat.reduceLeDiff, q75, c2]
      refine awp_loop (fun m s h' => ∃ i : Nat, i + m = l.length ∧ h' = h ∧ (∀ j (hj : j < l.length), j < i → l[j].lines.length ≤ 20) ∧ s = mk [(15, .sl 3 (l.map dopAv)), (16, .v (.int .i64 l.length)), (17, .v (.int .i64 i))])
        l.length _ (le_mk _ ?_) ⟨0, by omega, rfl, fun _ _ hj => by omega, rfl⟩ ?_
      · simp only [List.forall_mem_cons, List.not_mem_nil, false_imp_iff, implies_true, and_true]
        try simp -dsimp only [Vm.G, List.lookup, Nat.reduceAdd, Nat.reduceBEq, Int.reduceBNe, Int.reduceBEq, Nat.reduceLeDiff, q75]
        repeat' first | exact Fg.refl _ | exact Fg.nil _ _ _ (by decide) | refine And.intro ?_ ?_
      · rintro m s h' ⟨i, hi, rfl, hb, rfl⟩
        simp -dsimp only [Vm.G, List.lookup, Nat.reduceAdd, Nat.reduceBEq, Int.reduceBNe, Int.reduceBEq, Nat.reduceLeDiff, q75]
        refine cond_intro (fun hcc => ?_) (fun hcc => ?_)
        · have hlt : i < l.length := by have := of_decide_eq_true hcc; omega
          have hw : IntKind.i64.wrap ((i : Int) + 1) = ((i + 1 : Nat) : Int) := by rw [wrap_i64 (by omega) (by omega)]; simp
          have hxe : ∃ k, l[i] = k := ⟨_, rfl⟩
          rcases hxe with ⟨k, hk⟩
          simp -dsimp only [Vm.G, List.lookup, Nat.reduceAdd, Nat.reduceBEq, Int.reduceBNe, Int.reduceBEq, Nat.reduceLeDiff, q75]
          refine idx_map dopAv l i hlt ?_
          simp only [hk, dopAv]
          simp -dsimp only [Vm.G, List.lookup, Nat.reduceAdd, Nat.reduceBEq, Int.reduceBNe, Int.reduceBEq, Nat.reduceLeDiff, q75, AV.cells]
          have h3 := Bool.eq_false_or_eq_true (decide ((k.lines.length : Int) > 20))
          rcases h3 with c3 | c3
          · simp -dsimp only [Vm.G, List.lookup, Nat.reduceAdd, Nat.reduceBEq, Int.reduceBNe, Int.reduceBEq, Nat.reduceLeDiff, q75, c3]
            exact hq false fun h => by cases h
          · have d3 := of_decide_eq_false c3
            simp -dsimp only [Vm.G, List.lookup, Nat.reduceAdd, Nat.reduceBEq, Int.reduceBNe, Int.reduceBEq, Nat.reduceLeDiff, q75, c3]
            refine kept_intro ⟨l.length - (i + 1), by omega, _, le_mk [(15, .sl 3 (l.map dopAv)), (16, .v (.int .i64 l.length)), (17, .v (.int .i64 (i + 1 : Nat)))] ?_, i + 1, by omega, rfl, fun j hj hj2 => ?_, rfl⟩
            · simp only [List.forall_mem_cons, List.not_mem_nil, false_imp_iff, implies_true, and_true, hw]
              try simp -dsimp only [Vm.G, List.lookup, Nat.reduceAdd, Nat.reduceBEq, Int.reduceBNe, Int.reduceBEq, Nat.reduceLeDiff, q75, hw]
              repeat' first | exact Fg.refl _ | exact Fg.nil _ _ _ (by decide) | refine And.intro ?_ ?_
            · by_cases hji : j = i
              · subst hji; rw [hk]; omega
              · exact hb j hj (by omega)
        · have hge : ¬ i < l.length := by have := of_decide_eq_false hcc; omega
          simp -dsimp only [Vm.G, List.lookup, Nat.reduceAdd, Nat.reduceBEq, Int.reduceBNe, Int.reduceBEq, Nat.reduceLeDiff, q75]
          refine hq true fun _ => ⟨by omega, by omega, fun k hk => ?_⟩
          obtain ⟨j, hj, rfl⟩ := List.getElem_of_mem hk
          exact hb j hj (by omega)
def eb1 : Nd := { Nd.zero with id := 1, limit := 9, abs := true }
def eb2 : Ln := ⟨0, 0, 1, 9⟩
def eb3 : Ln := ⟨0, 0, 0, 4⟩
theorem eb_pre : (preNew (begunF [eb1]) 2020 [eb2]).2.1 = 1 := by decide +kernel
theorem eb_enc : (encNew (preNew (begunF [eb1]) 2020 [eb2]).1 2020 1 [eb3]).2 = (2, false, 0) := by decide +kernel
theorem eb_nd : (nodeAt (encNew (preNew (begunF [eb1]) 2020 [eb2]).1 2020 1 [eb3]).1 2020 1).map (fun n => (n.pre, n.enc)) = some (5, 4) := by decide +kernel
theorem eb1_ok : eb1.ok := by simp [Nd.ok, eb1, Nd.zero, I64]
theorem eb2_ok : eb2.ok := by simp [Ln.ok, eb2, I64]
theorem eb3_ok : eb3.ok := by simp [Ln.ok, eb3, I64]
set_option maxRecDepth 20000 in
set_option maxHeartbeats 1000000 in
theorem does_law32awake : Does Tryz.prog 55 trueSpec := by
  refine does_of_awp (good_cons does_begunW32 (good_cons does_preNew (good_cons does_encNew (good_cons does_tget good_nil)))) Tryz.func55 rfl (by decide +kernel) (by decide +kernel) ?_
  rintro args h Q ⟨rfl, hq⟩
  refine ⟨by simp [Tryz.f55], ?_⟩
  rw [awpFunc_some (by rfl)]
  simp -dsimp only [Vm.G, List.lookup, Nat.reduceAdd, Nat.reduceBEq, Int.reduceBNe, Int.reduceBEq, Nat.reduceLeDiff, q55]
  refine bs_intro zr93 (by decide) (by decide) rfl rfl (by simp [solid, AV.cells]) ?_
  simp -dsimp only [Vm.G, List.lookup, Nat.reduceAdd, Nat.reduceBEq, Int.reduceBNe, Int.reduceBEq, Nat.reduceLeDiff, q55]
  refine call_one (S := begunWSpec) rfl _ GaL.rfl ⟨[eb1], by simp, by simpa using eb1_ok, rfl, fun V R h1 hB => ?_⟩
  simp -dsimp only [Vm.G, List.lookup, Nat.reduceAdd, Nat.reduceBEq, Int.reduceBNe, Int.reduceBEq, Nat.reduceLeDiff, q55]
  refine nil_pointer Tryz.underlying24 ?_
  simp -dsimp only [Vm.G, List.lookup, Nat.reduceAdd, Nat.reduceBEq, Int.reduceBNe, Int.reduceBEq, Nat.reduceLeDiff, q55]
  refine bs_intro zr45 (by decide) (by decide) rfl rfl (by simp [solid, AV.cells]) ?_
  simp -dsimp only [Vm.G, List.lookup, Nat.reduceAdd, Nat.reduceBEq, Int.reduceBNe, Int.reduceBEq, Nat.reduceLeDiff, q55]
  refine call_one (S := preNewSpec) rfl _ GaL.rfl ⟨V, begunF [eb1], 2020, [eb2], by unfold I64; omega, by simp, by simpa using eb2_ok, rfl, hB.1.1, fun h2 g1 g2 => ?_⟩
  have e1 := eb_pre
  have e2 := eb_enc
  have e3 := eb_nd
  generalize preNew (begunF [eb1]) 2020 [eb2] = q at g1 e1 e2 e3 ⊢
  obtain ⟨qf, qi, qw, qe⟩ := q
  simp only at e1 e2 e3 g1 ⊢
  subst e1
  simp -dsimp only [Vm.G, List.lookup, Nat.reduceAdd, Nat.reduceBEq, Int.reduceBNe, Int.reduceBEq, Nat.reduceLeDiff, q55]
  refine bs_intro zr45 (by decide) (by decide) rfl rfl (by simp [solid, AV.cells]) ?_
  simp -dsimp only [Vm.G, List.lookup, Nat.reduceAdd, Nat.reduceBEq, Int.reduceBNe, Int.reduceBEq, Nat.reduceLeDiff, q55]
  refine call_one (S := encNewSpec) rfl _ GaL.rfl ⟨V, qf, 2020, 1, [eb3], by unfold I64; omega, by unfold I64; omega, by simp, by simpa using eb3_ok, rfl, g1, fun h3 k1 k2 => ?_⟩
  generalize encNew qf 2020 1 [eb3] = r at k1 e2 e3 ⊢
  obtain ⟨rf, ri, rw1, re⟩ := r
  simp only [Prod.mk.injEq] at e2
  obtain ⟨rfl, rfl, rfl⟩ := e2
  simp only at e3 k1 ⊢
  simp -dsimp only [Vm.G, List.lookup, Nat.reduceAdd, Nat.reduceBEq, Int.reduceBNe, Int.reduceBEq, Nat.reduceLeDiff, q55]
  refine call_one (S := tgetSpec) rfl _ GaL.rfl ⟨V, rf, 2020, 1, rfl, k1, fun n hn => ?_, fun hn => by rw [hn] at e3; cases e3⟩
  rw [hn] at e3
  have e4 : n.pre = 5 ∧ n.enc = 4 := by simpa using e3
  simp only [ndCells, e4.1, e4.2]
  simp -dsimp only [Vm.G, List.lookup, Nat.reduceAdd, Nat.reduceBEq, Int.reduceBNe, Int.reduceBEq, Nat.reduceLeDiff, q55]
  exact hq _
def elawSpec : Vm.Spec := fun args h Q => ∃ (ns : List Nd) (fs l : List Dop), ns.length ≤ 9223372036854775807 ∧ fs.length ≤ 9223372036854775807 ∧ l.length ≤ 9223372036854775807 ∧ (∀ n ∈ ns, n.ok) ∧ (∀ k ∈ fs, k.ok) ∧ (∀ k ∈ l, k.ok) ∧ args = [.sl 12 (ns.map ndAv), .sl 3 (fs.map dopAv), .sl 3 (l.map dopAv)] ∧ ∀ h', Q (.v (.bool true)) h'
set_option maxRecDepth 20000 in
set_option maxHeartbeats 8000000 in
theorem does_elaw : Does Tryz.prog 11 elawSpec := by
  refine does_of_awp (good_cons does_few32 (good_cons does_begunW32 (good_cons does_preNew (good_cons does_rPreNew (good_cons does_encNew (good_cons does_rEncNew (good_cons does_take (good_cons does_rTake (good_cons does_eqOwnDl (good_cons does_end32 (good_cons does_law32awake good_nil))))))))))) Tryz.func11 rfl (by decide +kernel) (by decide +kernel) ?_
  rintro args h Q ⟨ns, fs, l, hns, hfs, hl, hnok, hfok, hlok, rfl, hq⟩
  refine ⟨by simp [Tryz.f11], ?_⟩
  rw [awpFunc_some (by rfl)]
  simp -dsimp only [Vm.G, List.lookup, Nat.reduceAdd, Nat.reduceBEq, Int.reduceBNe, Int.reduceBEq, Nat.reduceLeDiff, q11]
  refine call_one (S := fewWSpec) rfl _ GaL.rfl ⟨ns, fs, hfs, rfl, fun b hb => ?_⟩
  have h0 := Bool.eq_false_or_eq_true b
  rcases h0 with c | c
  · have hbb := hb c
    rcases hbb with ⟨b1, b2, b3⟩
    simp -dsimp only [Vm.G, List.lookup, Nat.reduceAdd, Nat.reduceBEq, Int.reduceBNe, Int.reduceBEq, Nat.reduceLeDiff, q11, c]
    refine call_one (S := fewWSpec) rfl _ (.cons (.nil 12) GaL.rfl) ⟨[], l, hl, rfl, fun b4 hb4 => ?_⟩
    have h5 := Bool.eq_false_or_eq_true b4
    rcases h5 with c4 | c4
    · have hbb4 := hb4 c4
      rcases hbb4 with ⟨-, b5, b6⟩
      simp -dsimp only [Vm.G, List.lookup, Nat.reduceAdd, Nat.reduceBEq, Int.reduceBNe, Int.reduceBEq, Nat.reduceLeDiff, q11, c4]
      refine call_one (S := begunWSpec) rfl _ GaL.rfl ⟨ns, by omega, hnok, rfl, fun V R0 h1 hB => ?_⟩
      have hbn := begunF_n ns
      generalize begunF ns = f0 at hB hbn
      have hr0 : ∃ r0, r0 = R0.iv := ⟨_, rfl⟩
      rcases hr0 with ⟨r0, hr0⟩
      rw [← hr0]
      simp -dsimp only [Vm.G, List.lookup, Nat.reduceAdd, Nat.reduceBEq, Int.reduceBNe, Int.reduceBEq, Nat.reduceLeDiff, q11]
      refine awp_loop (fun m s h' => ∃ (i : Nat) (R : RId) (f g : Fun), i + m = fs.length ∧ R.iv = r0 ∧ BothW h' V R f g ∧ f.n ≤ 21 + 56 * i ∧ g.n ≤ 21 + 56 * i ∧ s = mk [(2, .sl 3 (l.map dopAv)), (7, .ptr V.iv 0), (8, .ptr r0 0), (39, .sl 3 (fs.map dopAv)), (40, .v (.int .i64 fs.length)), (41, .v (.int .i64 (i : Nat)))])
        fs.length _ (le_mk _ ?_) ⟨0, R0, f0, noF, by omega, hr0.symm, hB, by omega, Nat.zero_le _, rfl⟩ ?_
      · simp only [List.forall_mem_cons, List.not_mem_nil, false_imp_iff, implies_true, and_true]
        try simp -dsimp only [Vm.G, List.lookup, Nat.reduceAdd, Nat.reduceBEq, Int.reduceBNe, Int.reduceBEq, Nat.reduceLeDiff, q11]
        repeat' first | exact Fg.refl _ | exact Fg.nil _ _ _ (by decide) | refine And.intro ?_ ?_
      · clear hB hbn hr0
        rintro m s h' ⟨i, R, f, g, hi, hr, hB, hfn, hgn, rfl⟩
        simp -dsimp only [Vm.G, List.lookup, Nat.reduceAdd, Nat.reduceBEq, Int.reduceBNe, Int.reduceBEq, Nat.reduceLeDiff, q11]
        refine cond_intro (fun hcc => ?_) (fun hcc => ?_)
        · have hlt : i < fs.length := by have := of_decide_eq_true hcc; omega
          have hw : IntKind.i64.wrap ((i : Int) + 1) = ((i + 1 : Nat) : Int) := by rw [wrap_i64 (by omega) (by omega)]; simp
          have hk := hfok fs[i] (List.getElem_mem hlt)
          have hk2 := b3 fs[i] (List.getElem_mem hlt)
          have hxe : ∃ k, fs[i] = k := ⟨_, rfl⟩
          rcases hxe with ⟨k, hkx⟩
          rw [hkx] at hk hk2
          rcases hk with ⟨o1, o2, o3⟩
          have hpn := preNew_n f k.year k.lines
          simp -dsimp only [Vm.G, List.lookup, Nat.reduceAdd, Nat.reduceBEq, Int.reduceBNe, Int.reduceBEq, Nat.reduceLeDiff, q11]
          refine idx_map dopAv fs i hlt ?_
          simp only [hkx, dopAv]
          simp -dsimp only [Vm.G, List.lookup, Nat.reduceAdd, Nat.reduceBEq, Int.reduceBNe, Int.reduceBEq, Nat.reduceLeDiff, q11, AV.cells]
          refine call_one (S := preNewSpec) rfl _ GaL.rfl ⟨V, f, k.year, k.lines, o1, by omega, o3, rfl, hB.1.1, fun h2 g1 g2 => ?_⟩
          simp -dsimp only [Vm.G, List.lookup, Nat.reduceAdd, Nat.reduceBEq, Int.reduceBNe, Int.reduceBEq, Nat.reduceLeDiff, q11]
          refine call_one (S := rPreNewSpec) rfl _ GaL.rfl ⟨R, f, k.year, k.lines, o1, by omega, o3, by rw [hr], hB.1.view g1 g2, by omega, fun h3 g3 g4 => ?_⟩
          have hB2 := hB.step g1 g2 g3 g4
          generalize preNew f k.year k.lines = q at hpn hB2 ⊢
          rcases q with ⟨q0, qi, qw, qe⟩
          simp only at hpn hB2 ⊢
          simp -dsimp only [Vm.G, List.lookup, Nat.reduceAdd, Nat.reduceBEq, Int.reduceBNe, Int.reduceBEq, Nat.reduceLeDiff, q11]
          refine call_one (S := endSpec) rfl _ GaL.rfl ⟨V, R, q0, g, qe, by rw [hr], hB2, by omega, by omega, fun R2 h4 e4 hB4 => ?_⟩
          simp -dsimp only [Vm.G, List.lookup, Nat.reduceAdd, Nat.reduceBEq, Int.reduceBNe, Int.reduceBEq, Nat.reduceLeDiff, q11]
          refine kept_intro ⟨fs.length - (i + 1), by omega, _, le_mk [(2, .sl 3 (l.map dopAv)), (7, .ptr V.iv 0), (8, .ptr r0 0), (39, .sl 3 (fs.map dopAv)), (40, .v (.int .i64 fs.length)), (41, .v (.int .i64 (i + 1 : Nat)))] ?_, i + 1, R2, _, _, by omega, e4.trans hr, hB4, turnF_n (by omega) (by omega), turnF_n (by omega) (by omega), rfl⟩
          simp only [List.forall_mem_cons, List.not_mem_nil, false_imp_iff, implies_true, and_true, hw]
          try simp -dsimp only [Vm.G, List.lookup, Nat.reduceAdd, Nat.reduceBEq, Int.reduceBNe, Int.reduceBEq, Nat.reduceLeDiff, q11, hw]
          repeat' first | exact Fg.refl _ | exact Fg.nil _ _ _ (by decide) | refine And.intro ?_ ?_
        · have hge : ¬ i < fs.length := by have := of_decide_eq_false hcc; omega
          clear hcc
          have hfn2 : f.n ≤ 1141 := by omega
          have hgn2 : g.n ≤ 1141 := by omega
          simp -dsimp only [Vm.G, List.lookup, Nat.reduceAdd, Nat.reduceBEq, Int.reduceBNe, Int.reduceBEq, Nat.reduceLeDiff, q11]
          refine awp_loop (fun m s h' => ∃ (i : Nat) (R : RId) (f g : Fun), i + m = l.length ∧ R.iv = r0 ∧ BothW h' V R f g ∧ f.n ≤ 1141 + 62 * i ∧ g.n ≤ 1141 + 62 * i ∧ s = mk [(7, .ptr V.iv 0), (8, .ptr r0 0), (67, .sl 3 (l.map dopAv)), (68, .v (.int .i64 l.length)), (69, .v (.int .i64 (i : Nat)))])
            l.length _ (le_mk _ ?_) ⟨0, R, f, g, by omega, hr, hB, by omega, by omega, rfl⟩ ?_
          · simp only [List.forall_mem_cons, List.not_mem_nil, false_imp_iff, implies_true, and_true]
            try simp -dsimp only [Vm.G, List.lookup, Nat.reduceAdd, Nat.reduceBEq, Int.reduceBNe, Int.reduceBEq, Nat.reduceLeDiff, q11]
            repeat' first | exact Fg.refl _ | exact Fg.nil _ _ _ (by decide) | refine And.intro ?_ ?_
          · clear hB hr hfn hgn hfn2 hgn2 hi hge
            rintro m s h' ⟨i, R, f, g, hi, hr, hB, hfn, hgn, rfl⟩
            simp -dsimp only [Vm.G, List.lookup, Nat.reduceAdd, Nat.reduceBEq, Int.reduceBNe, Int.reduceBEq, Nat.reduceLeDiff, q11]
            refine cond_intro (fun hcc => ?_) (fun hcc => ?_)
            · have hlt : i < l.length := by have := of_decide_eq_true hcc; omega
              have hw : IntKind.i64.wrap ((i : Int) + 1) = ((i + 1 : Nat) : Int) := by rw [wrap_i64 (by omega) (by omega)]; simp
              have hk := hlok l[i] (List.getElem_mem hlt)
              have hk2 := b6 l[i] (List.getElem_mem hlt)
              have hxe : ∃ k, l[i] = k := ⟨_, rfl⟩
              rcases hxe with ⟨k, hkx⟩
              rw [hkx] at hk hk2
              rcases hk with ⟨o1, o2, o3⟩
              have hpn := encNew_n f k.year k.frm k.lines
              simp -dsimp only [Vm.G, List.lookup, Nat.reduceAdd, Nat.reduceBEq, Int.reduceBNe, Int.reduceBEq, Nat.reduceLeDiff, q11]
              refine idx_map dopAv l i hlt ?_
              simp only [hkx, dopAv]
              simp -dsimp only [Vm.G, List.lookup, Nat.reduceAdd, Nat.reduceBEq, Int.reduceBNe, Int.reduceBEq, Nat.reduceLeDiff, q11, AV.cells]
              refine call_one (S := encNewSpec) rfl _ GaL.rfl ⟨V, f, k.year, k.frm, k.lines, o1, o2, by omega, o3, rfl, hB.1.1, fun h2 g1 g2 => ?_⟩
              simp -dsimp only [Vm.G, List.lookup, Nat.reduceAdd, Nat.reduceBEq, Int.reduceBNe, Int.reduceBEq, Nat.reduceLeDiff, q11]
              refine call_one (S := rEncNewSpec) rfl _ GaL.rfl ⟨R, f, k.year, k.frm, k.lines, o1, o2, by omega, o3, by rw [hr], hB.1.view g1 g2, by omega, fun h3 g3 g4 => ?_⟩
              have hB2 := hB.step g1 g2 g3 g4
              generalize encNew f k.year k.frm k.lines = q at hpn hB2 ⊢
              rcases q with ⟨q0, qi, qw, qe⟩
              simp only at hpn hB2 ⊢
              simp -dsimp only [Vm.G, List.lookup, Nat.reduceAdd, Nat.reduceBEq, Int.reduceBNe, Int.reduceBEq, Nat.reduceLeDiff, q11, bool_neq, bne_self_eq_false, beq_self_eq_true]
              refine call_one (S := endSpec) rfl _ GaL.rfl ⟨V, R, q0, g, qe, by rw [hr], hB2, by omega, by omega, fun R2 h4 e4 hB4 => ?_⟩
              have htn : (turnF qe q0 g).n ≤ 1141 + 62 * (i + 1) := turnF_n (by omega) (by omega)
              have htk := takeOf_n (turnF qe q0 g) 1 k.year k.frm k.lines
              simp -dsimp only [Vm.G, List.lookup, Nat.reduceAdd, Nat.reduceBEq, Int.reduceBNe, Int.reduceBEq, Nat.reduceLeDiff, q11]
              refine call_one (S := takeSpec) rfl _ GaL.rfl ⟨V, turnF qe q0 g, 1, k.year, k.frm, k.lines, o2, o3, by omega, rfl, hB4.1.1, fun h5 m1 m2 => ?_⟩
              have hR5 := hB4.1.view m1 m2
              have hte : ∃ t, t = takeOf (turnF qe q0 g) 1 k.year k.frm k.lines := ⟨_, rfl⟩
              rcases hte with ⟨t, ht⟩
              rw [← ht] at m1 htk ⊢
              refine ⟨fun he => ?_, fun he => ?_⟩
              · simp -dsimp only [Vm.G, List.lookup, Nat.reduceAdd, Nat.reduceBEq, Int.reduceBNe, Int.reduceBEq, Nat.reduceLeDiff, q11]
                refine call_one (S := rTakeSpec) rfl _ GaL.rfl ⟨R2, turnF qe q0 g, 1, k.year, k.frm, k.lines, o2, o3, by omega, by rw [e4, hr], hR5, by omega, fun h6 m3 m4 => ?_⟩
                rw [← ht] at m3 ⊢
                have hB6 := hB4.step m1 m2 m3 m4
                clear ht
                rcases t with ⟨tq, td, te⟩
                simp only at he hB6 htk m1 m3
                refine ⟨fun he2 => ?_, fun he2 => absurd he he2⟩
                simp only
                simp -dsimp only [Vm.G, List.lookup, Nat.reduceAdd, Nat.reduceBEq, Int.reduceBNe, Int.reduceBEq, Nat.reduceLeDiff, q11]
                refine call_one (S := eqOwnDl) rfl _ GaL.rfl ⟨td, by omega, rfl, ?_⟩
                simp -dsimp only [Vm.G, List.lookup, Nat.reduceAdd, Nat.reduceBEq, Int.reduceBNe, Int.reduceBEq, Nat.reduceLeDiff, q11, bool_neq, bne_self_eq_false, beq_self_eq_true]
                refine call_one (S := endSpec) rfl _ GaL.rfl ⟨V, R2, tq, turnF qe q0 g, 1, by rw [e4, hr], hB6, by omega, by omega, fun R3 h7 e7 hB7 => ?_⟩
                have ht1 : turnF 1 tq (turnF qe q0 g) = turnF qe q0 g := by unfold turnF; rw [if_neg (by decide)]
                rw [ht1] at hB7
                simp -dsimp only [Vm.G, List.lookup, Nat.reduceAdd, Nat.reduceBEq, Int.reduceBNe, Int.reduceBEq, Nat.reduceLeDiff, q11]
                refine kept_intro ⟨l.length - (i + 1), by omega, _, le_mk [(7, .ptr V.iv 0), (8, .ptr r0 0), (67, .sl 3 (l.map dopAv)), (68, .v (.int .i64 l.length)), (69, .v (.int .i64 (i + 1 : Nat)))] ?_, i + 1, R3, _, _, by omega, (e7.trans e4).trans hr, hB7, by omega, by omega, rfl⟩
                simp only [List.forall_mem_cons, List.not_mem_nil, false_imp_iff, implies_true, and_true, hw]
                try simp -dsimp only [Vm.G, List.lookup, Nat.reduceAdd, Nat.reduceBEq, Int.reduceBNe, Int.reduceBEq, Nat.reduceLeDiff, q11, hw]
                repeat' first | exact Fg.refl _ | exact Fg.nil _ _ _ (by decide) | refine And.intro ?_ ?_
              · simp -dsimp only [Vm.G, List.lookup, Nat.reduceAdd, Nat.reduceBEq, Int.reduceBNe, Int.reduceBEq, Nat.reduceLeDiff, q11]
                refine call_one (S := rTakeSpec) rfl _ GaL.rfl ⟨R2, turnF qe q0 g, 1, k.year, k.frm, k.lines, o2, o3, by omega, by rw [e4, hr], hR5, by omega, fun h6 m3 m4 => ?_⟩
                rw [← ht] at m3 ⊢
                have hB6 := hB4.step m1 m2 m3 m4
                clear ht
                rcases t with ⟨tq, td, te⟩
                simp only at he hB6 htk m1 m3
                refine ⟨fun he2 => absurd he2 he, fun he2 => ?_⟩
                simp only
                simp -dsimp only [Vm.G, List.lookup, Nat.reduceAdd, Nat.reduceBEq, Int.reduceBNe, Int.reduceBEq, Nat.reduceLeDiff, q11]
                refine call_one (S := eqOwnDl) rfl _ (.cons (.nil 4) (.cons (.nil 4) .nil)) ⟨[], by simp, rfl, ?_⟩
                simp -dsimp only [Vm.G, List.lookup, Nat.reduceAdd, Nat.reduceBEq, Int.reduceBNe, Int.reduceBEq, Nat.reduceLeDiff, q11, bool_neq, bne_self_eq_false, beq_self_eq_true]
                refine call_one (S := endSpec) rfl _ GaL.rfl ⟨V, R2, tq, turnF qe q0 g, 1, by rw [e4, hr], hB6, by omega, by omega, fun R3 h7 e7 hB7 => ?_⟩
                have ht1 : turnF 1 tq (turnF qe q0 g) = turnF qe q0 g := by unfold turnF; rw [if_neg (by decide)]
                rw [ht1] at hB7
                simp -dsimp only [Vm.G, List.lookup, Nat.reduceAdd, Nat.reduceBEq, Int.reduceBNe, Int.reduceBEq, Nat.reduceLeDiff, q11]
                refine kept_intro ⟨l.length - (i + 1), by omega, _, le_mk [(7, .ptr V.iv 0), (8, .ptr r0 0), (67, .sl 3 (l.map dopAv)), (68, .v (.int .i64 l.length)), (69, .v (.int .i64 (i + 1 : Nat)))] ?_, i + 1, R3, _, _, by omega, (e7.trans e4).trans hr, hB7, by omega, by omega, rfl⟩
                simp only [List.forall_mem_cons, List.not_mem_nil, false_imp_iff, implies_true, and_true, hw]
                try simp -dsimp only [Vm.G, List.lookup, Nat.reduceAdd, Nat.reduceBEq, Int.reduceBNe, Int.reduceBEq, Nat.reduceLeDiff, q11, hw]
                repeat' first | exact Fg.refl _ | exact Fg.nil _ _ _ (by decide) | refine And.intro ?_ ?_
            · have hge : ¬ i < l.length := by have := of_decide_eq_false hcc; omega
              clear hcc
              simp -dsimp only [Vm.G, List.lookup, Nat.reduceAdd, Nat.reduceBEq, Int.reduceBNe, Int.reduceBEq, Nat.reduceLeDiff, q11]
              refine call_one (S := trueSpec) rfl _ GaL.rfl ⟨rfl, fun hz => ?_⟩
              simp -dsimp only [Vm.G, List.lookup, Nat.reduceAdd, Nat.reduceBEq, Int.reduceBNe, Int.reduceBEq, Nat.reduceLeDiff, q11]
              exact hq _
    · simp -dsimp only [Vm.G, List.lookup, Nat.reduceAdd, Nat.reduceBEq, Int.reduceBNe, Int.reduceBEq, Nat.reduceLeDiff, q11, c4]
      refine call_one (S := trueSpec) rfl _ GaL.rfl ⟨rfl, fun hz => ?_⟩
      simp -dsimp only [Vm.G, List.lookup, Nat.reduceAdd, Nat.reduceBEq, Int.reduceBNe, Int.reduceBEq, Nat.reduceLeDiff, q11]
      exact hq _
  · simp -dsimp only [Vm.G, List.lookup, Nat.reduceAdd, Nat.reduceBEq, Int.reduceBNe, Int.reduceBEq, Nat.reduceLeDiff, q11, c]
    refine call_one (S := trueSpec) rfl _ GaL.rfl ⟨rfl, fun hz => ?_⟩
    simp -dsimp only [Vm.G, List.lookup, Nat.reduceAdd, Nat.reduceBEq, Int.reduceBNe, Int.reduceBEq, Nat.reduceLeDiff, q11]
    exact hq _
theorem elaw_args {y0 y1 y2 : AV} (i0 : IsA (.sl (.agg [.int .i64, .int .i64, .int .i64, .int .i64, .int .i64, .bool, .int .i64, .int .i64, .int .i64, .int .i64, .int .i64, .int .i64])) y0) (i1 : IsA (.sl (.agg [.int .i64, .int .i64, .sl (.agg [.int .i64, .int .i64, .int .i64, .int .i64])])) y1) (i2 : IsA (.sl (.agg [.int .i64, .int .i64, .sl (.agg [.int .i64, .int .i64, .int .i64, .int .i64])])) y2) {Q : AV → Heap → Prop} (hq : ∀ h', Q (.v (.bool true)) h') : elawSpec [y0, y1, y2] [] Q := by
  obtain ⟨ns, h1, rfl, o1⟩ := isA_list _ ndAv (fun y hy => isA_nd hy) i0
  obtain ⟨fs, h2, rfl, o2⟩ := isA_list _ dopAv (fun y hy => isA_dop hy) i1
  obtain ⟨l, h3, rfl, o3⟩ := isA_list _ dopAv (fun y hy => isA_dop hy) i2
  exact ⟨ns, fs, l, h1, h2, h3, o1, o2, o3, rfl, hq⟩
end Go.Proofs.Lx
