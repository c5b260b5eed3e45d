/- What the functions of the program do: their contracts. -/
import Derived.Test.YtiggbkhkmecagaaGreatDoorV2
import Derived.Test.YtiggbkhkmecagaaGreatDoorTFs
import Derived.Test.YtiggbkhkmecagaaGreatDoorW1
/- Documents, the reference's: ref30. -/
set_option linter.unusedSimpArgs false
set_option linter.unusedVariables false
namespace Go.Proofs.Lx
open Go.Vm
attribute [local irreducible] awpArr awpBin awpMake awpAppend awpCvX awpStrOf awpBinX awpSlice awpBS awpStore awpAlloc awpCopy awpIndex awpDraw awpIdxX awpFa awpField awpLookup awpUpdate awpDelete awpClear awpRange awpNext awpEntry awpBuild awpClearS awpIdxL awpTree appB awpIdxO eltA treeA
theorem does_rDl : Does Tryz.prog 117 rdlSpec := by
  refine does_of_awp (good_cons does_rPair good_nil) Tryz.func117 rfl (by decide +kernel) (by decide +kernel) ?_
  rintro args h Q ⟨id, i, x, hid, hi, ⟨o1, o2, o3, o4⟩, rfl, hq⟩
  refine ⟨by simp [Tryz.f117], ?_⟩
  rw [awpFunc_some (by rfl)]
  simp only [dlAv, dlCells]
  simp -dsimp only [Vm.G, List.lookup, Nat.reduceAdd, Nat.reduceBEq, Int.reduceBNe, Int.reduceBEq, Nat.reduceLeDiff, q117]
  refine bs_intro zr3 (by decide) (by decide) rfl rfl (by simp [solid, AV.cells]) ?_
  simp -dsimp only [Vm.G, List.lookup, Nat.reduceAdd, Nat.reduceBEq, Int.reduceBNe, Int.reduceBEq, Nat.reduceLeDiff, q117]
  refine bs_intro zr3 (by decide) (by decide) rfl rfl (by simp [solid, AV.cells]) ?_
  simp -dsimp only [Vm.G, List.lookup, Nat.reduceAdd, Nat.reduceBEq, Int.reduceBNe, Int.reduceBEq, Nat.reduceLeDiff, q117]
  refine call_one (S := rPairSpec) rfl _ GaL.rfl ⟨76, [id, i], [x.node, x.orig, x.liq, x.can], by simp, by simp, ?_, rfl, ?_⟩
  · intro m hm
    simp only [List.mem_cons, List.not_mem_nil, or_false] at hm
    rcases hm with rfl | rfl | rfl | rfl <;> assumption
  · simp -dsimp only [Vm.G, List.lookup, Nat.reduceAdd, Nat.reduceBEq, Int.reduceBNe, Int.reduceBEq, Nat.reduceLeDiff, q117]
    exact hq
theorem does_rDc : Does Tryz.prog 118 rdcSpec := by
  refine does_of_awp (good_cons does_rPair good_nil) Tryz.func118 rfl (by decide +kernel) (by decide +kernel) ?_
  rintro args h Q ⟨d, ⟨o1, o2, o3, o4, o5⟩, rfl, hq⟩
  refine ⟨by simp [Tryz.f118], ?_⟩
  rw [awpFunc_some (by rfl)]
  simp only [dcCells]
  simp -dsimp only [Vm.G, List.lookup, Nat.reduceAdd, Nat.reduceBEq, Int.reduceBNe, Int.reduceBEq, Nat.reduceLeDiff, q118]
  refine bs_intro zr3 (by decide) (by decide) rfl rfl (by simp [solid, AV.cells]) ?_
  simp -dsimp only [Vm.G, List.lookup, Nat.reduceAdd, Nat.reduceBEq, Int.reduceBNe, Int.reduceBEq, Nat.reduceLeDiff, q118]
  refine bs_intro zr3 (by decide) (by decide) rfl rfl (by simp [solid, AV.cells]) ?_
  simp -dsimp only [Vm.G, List.lookup, Nat.reduceAdd, Nat.reduceBEq, Int.reduceBNe, Int.reduceBEq, Nat.reduceLeDiff, q118]
  refine call_one (S := rPairSpec) rfl _ GaL.rfl ⟨68, [d.id], [d.kind, d.year, d.frm, d.lines], by simp, by simp, ?_, rfl, ?_⟩
  · intro m hm
    simp only [List.mem_cons, List.not_mem_nil, or_false] at hm
    rcases hm with rfl | rfl | rfl | rfl <;> assumption
  · simp -dsimp only [Vm.G, List.lookup, Nat.reduceAdd, Nat.reduceBEq, Int.reduceBNe, Int.reduceBEq, Nat.reduceLeDiff, q118]
    exact hq
def rDocsPutSpec : Vm.Spec := fun args h Q => ∃ (R : RId) (f : Fun) (d : Dc) (l : List Dl), d.ok ∧ (∀ x ∈ l, x.ok) ∧ args = [.ptr R.iv 0, .agg (dcCells d), .sl 4 (l.map dlAv)] ∧ isRef h R f ∧ f.n ≤ 536870900 ∧
  ∀ h', isRef h' R (docsPut f d l).1 → Same h h' (rFoot R) → Q (.tup [.v (.int .i64 (docsPut f d l).2.1), .v (.int .i64 (docsPut f d l).2.2)]) h'
set_option maxRecDepth 20000 in
set_option maxHeartbeats 2000000 in
theorem does_rDocsPut : Does Tryz.prog 42 rDocsPutSpec := by
  refine does_of_awp (good_cons does_rNext (good_cons does_rDl (good_cons does_rSet (good_cons does_rDc good_nil)))) Tryz.func42 rfl (by decide +kernel) (by decide +kernel) ?_
  rintro args h Q ⟨R, f, d, l, hd, hx, rfl, hR, hfn, hq⟩
  refine ⟨by simp [Tryz.f42], ?_⟩
  rw [awpFunc_some (by rfl)]
  unfold docsPut at hq
  simp only [dcCells]
  simp -dsimp only [Vm.G, List.lookup, Nat.reduceAdd, Nat.reduceBEq, Int.reduceBNe, Int.reduceBEq, Nat.reduceLeDiff, q42]
  have hd0 := Bool.eq_false_or_eq_true (decide ((l.length : Int) < 1))
  rcases hd0 with c0 | c0
  · have d0 := of_decide_eq_true c0
    simp only [if_pos (show l.length = 0 ∨ 6 < l.length from .inl (by omega))] at hq
    simp -dsimp only [Vm.G, List.lookup, Nat.reduceAdd, Nat.reduceBEq, Int.reduceBNe, Int.reduceBEq, Nat.reduceLeDiff, q42, c0]
    exact hq h hR (.refl _ _)
  · have d0 := of_decide_eq_false c0
    have hd6 := Bool.eq_false_or_eq_true (decide ((l.length : Int) > 6))
    rcases hd6 with c6 | c6
    · have d6 := of_decide_eq_true c6
      simp only [if_pos (show l.length = 0 ∨ 6 < l.length from .inr (by omega))] at hq
      simp -dsimp only [Vm.G, List.lookup, Nat.reduceAdd, Nat.reduceBEq, Int.reduceBNe, Int.reduceBEq, Nat.reduceLeDiff, q42, c0, c6]
      exact hq h hR (.refl _ _)
    · have d6 := of_decide_eq_false c6
      have hr := readOf_range f (seqKey 2)
      simp only [if_neg (show ¬ (l.length = 0 ∨ 6 < l.length) by omega)] at hq
      simp -dsimp only [Vm.G, List.lookup, Nat.reduceAdd, Nat.reduceBEq, Int.reduceBNe, Int.reduceBEq, Nat.reduceLeDiff, q42, c0, c6]
      refine call_one (S := rNextSpec) rfl _ GaL.rfl ⟨R, f, 2, rfl, hR, by omega, fun hr => ?_, fun hn h1 g1 g2 => ?_⟩
      · simp only [if_pos hr] at hq
        simp -dsimp only [Vm.G, List.lookup, Nat.reduceAdd, Nat.reduceBEq, Int.reduceBNe, Int.reduceBEq, Nat.reduceLeDiff, q42]
        exact hq h hR (.refl _ _)
      · simp only [if_neg hn] at hq
        unfold docsF at hq
        have hidr : I64 (readOf f (seqKey 2) + 1) := by unfold I64 at hr ⊢; omega
        have hf1 : (upd f (seqKey 2) (some (be 8 (readOf f (seqKey 2) + 1)))).n = f.n + 1 := rfl
        generalize readOf f (seqKey 2) + 1 = id at hq g1 hidr hf1 ⊢
        generalize upd f (seqKey 2) (some (be 8 id)) = f1 at hq g1 hf1
        simp -dsimp only [Vm.G, List.lookup, Nat.reduceAdd, Nat.reduceBEq, Int.reduceBNe, Int.reduceBEq, Nat.reduceLeDiff, q42]
        refine awp_loop (fun m s h' => ∃ (i : Nat) (g : Fun), i + m = l.length ∧ isRef h' R g ∧ g.n ≤ f.n + 1 + i ∧ Same h h' (rFoot R) ∧ putLines id i (l.drop i) g = putLines id 0 l f1 ∧ s = mk [(0, .ptr R.iv 0), (2, .sl 4 (l.map dlAv)), (4, .box [.v (.int .i64 d.id), .v (.int .i64 d.kind), .v (.int .i64 d.year), .v (.int .i64 d.frm), .v (.int .i64 d.lines)]), (8, .v (.int .i64 id)), (10, .v (.int .i64 (i : Nat)))])
          l.length _ (le_mk _ ?_) ⟨0, f1, by omega, g1, by omega, g2, rfl, rfl⟩ ?_
        · simp only [List.forall_mem_cons, List.not_mem_nil, false_imp_iff, implies_true, and_true]
          try simp -dsimp only [Vm.G, List.lookup, Nat.reduceAdd, Nat.reduceBEq, Int.reduceBNe, Int.reduceBEq, Nat.reduceLeDiff, q42]
          repeat' first | exact Fg.refl _ | exact Fg.nil _ _ _ (by decide) | refine And.intro ?_ ?_
        · clear g1 g2 hR
          rintro m s h' ⟨i, g, hi, hR, hgn, hsm, hp, rfl⟩
          simp -dsimp only [Vm.G, List.lookup, Nat.reduceAdd, Nat.reduceBEq, Int.reduceBNe, Int.reduceBEq, Nat.reduceLeDiff, q42]
          refine cond_intro (fun hcc => ?_) (fun hcc => ?_)
          · have hlt : i < l.length := by have := of_decide_eq_true hcc; omega
            have hw : IntKind.i64.wrap ((i : Int) + 1) = ((i + 1 : Nat) : Int) := by rw [wrap_i64 (by omega) (by omega)]; simp
            have hok := hx l[i] (List.getElem_mem hlt)
            rw [List.drop_eq_getElem_cons hlt] at hp
            simp -dsimp only [Vm.G, List.lookup, Nat.reduceAdd, Nat.reduceBEq, Int.reduceBNe, Int.reduceBEq, Nat.reduceLeDiff, q42]
            refine idx_map dlAv l i hlt ?_
            generalize l[i] = x at hok hp
            have hii : I64 (i : Int) := by unfold I64; omega
            have hun : (upd g (dlK id i) (some (dlV x))).n = g.n + 1 := rfl
            simp only [dlAv, dlCells]
            simp -dsimp only [Vm.G, List.lookup, Nat.reduceAdd, Nat.reduceBEq, Int.reduceBNe, Int.reduceBEq, Nat.reduceLeDiff, q42, AV.cells]
            refine call_one (S := rdlSpec) rfl _ GaL.rfl ⟨id, i, x, hidr, hii, hok, rfl, ?_⟩
            simp -dsimp only [Vm.G, List.lookup, Nat.reduceAdd, Nat.reduceBEq, Int.reduceBNe, Int.reduceBEq, Nat.reduceLeDiff, q42]
            refine call_one (S := rSetSpec) rfl _ GaL.rfl ⟨R, g, (dlK id i, dlV x), rfl, hR, by omega, fun h2 g1 g2 => ?_⟩
            rw [if_pos (right_dl id i x)] at g1
            simp -dsimp only [Vm.G, List.lookup, Nat.reduceAdd, Nat.reduceBEq, Int.reduceBNe, Int.reduceBEq, Nat.reduceLeDiff, q42]
            refine kept_intro ⟨l.length - (i + 1), by omega, _, le_mk [(0, .ptr R.iv 0), (2, .sl 4 (l.map dlAv)), (4, .box [.v (.int .i64 d.id), .v (.int .i64 d.kind), .v (.int .i64 d.year), .v (.int .i64 d.frm), .v (.int .i64 d.lines)]), (8, .v (.int .i64 id)), (10, .v (.int .i64 (i + 1 : Nat)))] ?_, i + 1, _, by omega, g1, by show (upd g (dlK id i) (some (dlV x))).n ≤ f.n + 1 + (i + 1); omega, hsm.trans g2, hp, rfl⟩
            simp only [List.forall_mem_cons, List.not_mem_nil, false_imp_iff, implies_true, and_true, hw]
            try simp -dsimp only [Vm.G, List.lookup, Nat.reduceAdd, Nat.reduceBEq, Int.reduceBNe, Int.reduceBEq, Nat.reduceLeDiff, q42, hw]
            repeat' first | exact Fg.refl _ | exact Fg.nil _ _ _ (by decide) | refine And.intro ?_ ?_
          · have hge : ¬ i < l.length := by have := of_decide_eq_false hcc; omega
            rw [List.drop_of_length_le (by omega)] at hp
            have hp : g = putLines id 0 l f1 := hp
            rw [← hp] at hq
            obtain ⟨o1, o2, o3, o4, o5⟩ := hd
            have hdok : ({ d with id := id, lines := (l.length : Int) } : Dc).ok := ⟨hidr, o2, o3, o4, by unfold I64; show -9223372036854775808 ≤ (l.length : Int) ∧ (l.length : Int) ≤ _; omega⟩
            simp -dsimp only [Vm.G, List.lookup, Nat.reduceAdd, Nat.reduceBEq, Int.reduceBNe, Int.reduceBEq, Nat.reduceLeDiff, q42]
            refine call_one (S := rdcSpec) rfl _ GaL.rfl ⟨{ d with id := id, lines := l.length }, hdok, rfl, ?_⟩
            simp -dsimp only [Vm.G, List.lookup, Nat.reduceAdd, Nat.reduceBEq, Int.reduceBNe, Int.reduceBEq, Nat.reduceLeDiff, q42]
            refine call_one (S := rSetSpec) rfl _ GaL.rfl ⟨R, g, (dcK id, dcV { d with id := id, lines := l.length }), rfl, hR, by omega, fun h2 g1 g2 => ?_⟩
            rw [if_pos (right_dc id _)] at g1
            simp -dsimp only [Vm.G, List.lookup, Nat.reduceAdd, Nat.reduceBEq, Int.reduceBNe, Int.reduceBEq, Nat.reduceLeDiff, q42]
            exact hq h2 g1 (hsm.trans g2)
end Go.Proofs.Lx
/- Encumbrances: plain laws and bounds. -/
set_option linter.unusedSimpArgs false
set_option linter.unusedVariables false
namespace Go.Proofs.Lx
open Go.Vm
attribute [local irreducible] awpArr awpBin awpMake awpAppend awpCvX awpStrOf awpBinX awpSlice awpBS awpStore awpAlloc awpCopy awpIndex awpDraw awpIdxX awpFa awpField awpLookup awpUpdate awpDelete awpClear awpRange awpNext awpEntry awpBuild awpClearS awpIdxL awpTree appB awpIdxO eltA treeA
theorem chargeRun_n (c : Chg) : ∀ (l : List Nd) (f : Fun) (w : Bool), (chargeRun c l f w).1.n ≤ f.n + l.length
  | [], f, w => Nat.le_refl _
  | n :: r, f, w => by
    unfold chargeRun
    split
    · exact Nat.le_add_right _ _
    · have := chargeRun_n c r (upd f (ndK (atOf c n).1) (some (ndV (atOf c n).1))) (w || (atOf c n).2.1)
      have e : (upd f (ndK (atOf c n).1) (some (ndV (atOf c n).1))).n = f.n + 1 := rfl
      rw [e] at this
      rw [List.length_cons]; omega
theorem chargeOf_n (f : Fun) (year id : Int) (c : Chg) : (chargeOf f year id c).1.n ≤ f.n + 8 := by
  unfold chargeOf
  split
  · exact Nat.le_add_right _ _
  · split
    · exact Nat.le_add_right _ _
    · have := chargeRun_n c (pathOf f year 8 id) f false
      have := pathOf_length f year 8 id
      omega
/-- Lines' nodes, charged: so much of each line. -/
def chargeG (mk : Dl → Chg) (year : Int) : List Dl → Fun → Bool → Fun × Bool × Int
  | [], f, w => (f, w, 0)
  | x :: r, f, w => if (chargeOf f year x.node (mk x)).2.2 ≠ 0 then ((chargeOf f year x.node (mk x)).1, false, (chargeOf f year x.node (mk x)).2.2)
    else chargeG mk year r (chargeOf f year x.node (mk x)).1 (w || (chargeOf f year x.node (mk x)).2.1)
theorem chargeG_cons (mk : Dl → Chg) (year : Int) (x : Dl) (r : List Dl) (f : Fun) (w : Bool) : chargeG mk year (x :: r) f w = if (chargeOf f year x.node (mk x)).2.2 ≠ 0 then ((chargeOf f year x.node (mk x)).1, false, (chargeOf f year x.node (mk x)).2.2)
    else chargeG mk year r (chargeOf f year x.node (mk x)).1 (w || (chargeOf f year x.node (mk x)).2.1) := rfl
theorem chargeL_G (year : Int) : ∀ (l : List Dl) (f : Fun) (w : Bool), chargeL year l f w = chargeG (fun x => ⟨x.orig, 0, 0⟩) year l f w
  | [], _, _ => rfl
  | x :: r, f, w => by
    rw [chargeL_cons, chargeG_cons, chargeL_G year r]
theorem chargeG_congr {mk mk' : Dl → Chg} (year : Int) : ∀ (l : List Dl) (f : Fun) (w : Bool), (∀ x ∈ l, mk x = mk' x) → chargeG mk year l f w = chargeG mk' year l f w
  | [], _, _, _ => rfl
  | x :: r, f, w, h => by
    rw [chargeG_cons, chargeG_cons, h x (List.mem_cons_self ..), chargeG_congr year r _ _ fun y hy => h y (List.mem_cons_of_mem _ hy)]
theorem chargeG_n (mk : Dl → Chg) (year : Int) : ∀ (l : List Dl) (f : Fun) (w : Bool), (chargeG mk year l f w).1.n ≤ f.n + 8 * l.length
  | [], f, w => Nat.le_refl _
  | x :: r, f, w => by
    have h1 := chargeOf_n f year x.node (mk x)
    rw [chargeG_cons]
    split
    · show (chargeOf f year x.node (mk x)).1.n ≤ _
      rw [List.length_cons]; omega
    · have := chargeG_n mk year r (chargeOf f year x.node (mk x)).1 (w || (chargeOf f year x.node (mk x)).2.1)
      rw [List.length_cons]; omega
theorem putLines_bound (id : Int) : ∀ (l : List Dl) (i : Nat) (f : Fun), (putLines id i l f).n = f.n + l.length
  | [], _, _ => rfl
  | x :: r, i, f => by
    show (putLines id (i + 1) r (upd f (dlK id i) (some (dlV x)))).n = _
    rw [putLines_bound id r (i + 1)]
    show f.n + 1 + r.length = f.n + (r.length + 1)
    omega
theorem docsPut_n (f : Fun) (d : Dc) (l : List Dl) : (docsPut f d l).1.n ≤ f.n + 8 := by
  unfold docsPut
  split
  · exact Nat.le_add_right _ _
  · split
    · exact Nat.le_add_right _ _
    · show (putLines _ 0 l (upd f (seqKey 2) _)).n + 1 ≤ _
      rw [putLines_bound]
      show f.n + 1 + l.length + 1 ≤ _
      omega
theorem preCheck_len {l : List Ln} (h : ¬ preCheck l ≠ 0) : l.length ≤ 6 := by
  unfold preCheck at h
  split at h
  · simp at h
  · rename_i h2; omega
theorem ownL_length (l : List Ln) : (ownL l).length = l.length := by unfold ownL; rw [List.length_map]
theorem preNew_n (f : Fun) (year : Int) (l : List Ln) : (preNew f year l).1.n ≤ f.n + 56 := by
  unfold preNew
  split
  · exact Nat.le_add_right _ _
  · split
    · exact Nat.le_add_right _ _
    · rename_i h1 h2
      have hl := preCheck_len h2
      have hc := chargeG_n (fun x => ⟨x.orig, 0, 0⟩) year (ownL l) f false
      rw [← chargeL_G, ownL_length] at hc
      split
      · show (chargeL year (ownL l) f false).1.n ≤ _
        omega
      · have hp := docsPut_n (chargeL year (ownL l) f false).1 ⟨0, 1, year, 0, 0⟩ (ownL l)
        show (docsPut (chargeL year (ownL l) f false).1 ⟨0, 1, year, 0, 0⟩ (ownL l)).1.n ≤ _
        omega
theorem Dl.zero_ok : Dl.zero.ok := by simp [Dl.ok, Dl.zero, I64]
end Go.Proofs.Lx
/- Charges and pre-encumbrances, the reference's: ref29, ref31. -/
set_option linter.unusedSimpArgs false
set_option linter.unusedVariables false
namespace Go.Proofs.Lx
open Go.Vm
attribute [local irreducible] awpArr awpBin awpMake awpAppend awpCvX awpStrOf awpBinX awpSlice awpBS awpStore awpAlloc awpCopy awpIndex awpDraw awpIdxX awpFa awpField awpLookup awpUpdate awpDelete awpClear awpRange awpNext awpEntry awpBuild awpClearS awpIdxL awpTree appB awpIdxO eltA treeA
theorem does_rSmall : Does Tryz.prog 309 (predSpec smallP) := by
  refine does_of_awp good_nil Tryz.func309 rfl (by decide +kernel) (by decide +kernel) ?_
  rintro args h Q ⟨n, rfl, hq⟩
  refine ⟨by simp [Tryz.f309], ?_⟩
  rw [awpFunc_some (by rfl)]
  unfold smallP at hq
  simp -dsimp only [Vm.G, List.lookup, Nat.reduceAdd, Nat.reduceBEq, Int.reduceBNe, Int.reduceBEq, Nat.reduceLeDiff, q309]
  have h1 := Bool.eq_false_or_eq_true (decide (-1152921504606846976 ≤ n))
  rcases h1 with c1 | c1
  · rw [c1] at hq
    have c2 : decide (n ≥ -1152921504606846976) = true := c1
    simp -dsimp only [Vm.G, List.lookup, Nat.reduceAdd, Nat.reduceBEq, Int.reduceBNe, Int.reduceBEq, Nat.reduceLeDiff, q309, c2]
    exact hq
  · rw [c1] at hq
    have c2 : decide (n ≥ -1152921504606846976) = false := c1
    simp -dsimp only [Vm.G, List.lookup, Nat.reduceAdd, Nat.reduceBEq, Int.reduceBNe, Int.reduceBEq, Nat.reduceLeDiff, q309, c2]
    exact hq
theorem does_rFigure : Does Tryz.prog 263 (predSpec figureP) := by
  refine does_of_awp good_nil Tryz.func263 rfl (by decide +kernel) (by decide +kernel) ?_
  rintro args h Q ⟨n, rfl, hq⟩
  refine ⟨by simp [Tryz.f263], ?_⟩
  rw [awpFunc_some (by rfl)]
  unfold figureP at hq
  simp -dsimp only [Vm.G, List.lookup, Nat.reduceAdd, Nat.reduceBEq, Int.reduceBNe, Int.reduceBEq, Nat.reduceLeDiff, q263]
  have h1 := Bool.eq_false_or_eq_true (decide (0 ≤ n))
  rcases h1 with c1 | c1
  · rw [c1] at hq
    have c2 : decide (n ≥ 0) = true := c1
    simp -dsimp only [Vm.G, List.lookup, Nat.reduceAdd, Nat.reduceBEq, Int.reduceBNe, Int.reduceBEq, Nat.reduceLeDiff, q263, c2]
    exact hq
  · rw [c1] at hq
    have c2 : decide (n ≥ 0) = false := c1
    simp -dsimp only [Vm.G, List.lookup, Nat.reduceAdd, Nat.reduceBEq, Int.reduceBNe, Int.reduceBEq, Nat.reduceLeDiff, q263, c2]
    exact hq
theorem does_rAmt : Does Tryz.prog 153 (predSpec rightA) := by
  refine does_of_awp good_nil Tryz.func153 rfl (by decide +kernel) (by decide +kernel) ?_
  rintro args h Q ⟨n, rfl, hq⟩
  refine ⟨by simp [Tryz.f153], ?_⟩
  rw [awpFunc_some (by rfl)]
  unfold rightA at hq
  simp -dsimp only [Vm.G, List.lookup, Nat.reduceAdd, Nat.reduceBEq, Int.reduceBNe, Int.reduceBEq, Nat.reduceLeDiff, q153]
  have h1 := Bool.eq_false_or_eq_true (decide (1 ≤ n))
  rcases h1 with c1 | c1
  · rw [c1] at hq
    have c2 : decide (n ≥ 1) = true := c1
    simp -dsimp only [Vm.G, List.lookup, Nat.reduceAdd, Nat.reduceBEq, Int.reduceBNe, Int.reduceBEq, Nat.reduceLeDiff, q153, c2]
    exact hq
  · rw [c1] at hq
    have c2 : decide (n ≥ 1) = false := c1
    simp -dsimp only [Vm.G, List.lookup, Nat.reduceAdd, Nat.reduceBEq, Int.reduceBNe, Int.reduceBEq, Nat.reduceLeDiff, q153, c2]
    exact hq
theorem small_rng (n : Int) : smallP n = true ↔ -1152921504606846976 ≤ n ∧ n ≤ 1152921504606846976 := by simp [smallP]
set_option maxHeartbeats 1000000 in
theorem does_rAllows : Does Tryz.prog 264 allowsSpec := by
  refine does_of_awp (good_cons does_rtUsed (good_cons does_rSmall good_nil)) Tryz.func264 rfl (by decide +kernel) (by decide +kernel) ?_
  rintro args h Q ⟨n, more, rfl, hq⟩
  refine ⟨by simp [Tryz.f264], ?_⟩
  rw [awpFunc_some (by rfl)]
  unfold allowsOf at hq
  simp only [ndCells]
  simp -dsimp only [Vm.G, List.lookup, Nat.reduceAdd, Nat.reduceBEq, Int.reduceBNe, Int.reduceBEq, Nat.reduceLeDiff, q264]
  refine call_one (S := usedSpec) rfl _ GaL.rfl ⟨n, rfl, ?_⟩
  simp -dsimp only [Vm.G, List.lookup, Nat.reduceAdd, Nat.reduceBEq, Int.reduceBNe, Int.reduceBEq, Nat.reduceLeDiff, q264]
  have h1 := Bool.eq_false_or_eq_true (decide (more > 1152921504606846976))
  rcases h1 with c1 | c1
  · have d1 := of_decide_eq_true c1
    rw [if_pos (.inl d1)] at hq
    simp -dsimp only [Vm.G, List.lookup, Nat.reduceAdd, Nat.reduceBEq, Int.reduceBNe, Int.reduceBEq, Nat.reduceLeDiff, q264, c1]
    exact hq
  · have d1 := of_decide_eq_false c1
    simp -dsimp only [Vm.G, List.lookup, Nat.reduceAdd, Nat.reduceBEq, Int.reduceBNe, Int.reduceBEq, Nat.reduceLeDiff, q264, c1]
    refine call_one (S := predSpec smallP) rfl _ GaL.rfl ⟨usedOf n, rfl, ?_⟩
    have h2 := Bool.eq_false_or_eq_true (smallP (usedOf n))
    rcases h2 with c2 | c2
    · simp -dsimp only [Vm.G, List.lookup, Nat.reduceAdd, Nat.reduceBEq, Int.reduceBNe, Int.reduceBEq, Nat.reduceLeDiff, q264, c2]
      refine call_one (S := predSpec smallP) rfl _ GaL.rfl ⟨n.limit, rfl, ?_⟩
      have h3 := Bool.eq_false_or_eq_true (smallP n.limit)
      rcases h3 with c3 | c3
      · rw [if_neg (by rw [c2, c3]; simpa using d1)] at hq
        have b2 := (small_rng _).1 c2
        have b3 := (small_rng _).1 c3
        simp -dsimp only [Vm.G, List.lookup, Nat.reduceAdd, Nat.reduceBEq, Int.reduceBNe, Int.reduceBEq, Nat.reduceLeDiff, q264, c3]
        have h4 := Bool.eq_false_or_eq_true (decide (more < 1))
        rcases h4 with c4 | c4
        · rw [if_pos (.inl (of_decide_eq_true c4))] at hq
          simp -dsimp only [Vm.G, List.lookup, Nat.reduceAdd, Nat.reduceBEq, Int.reduceBNe, Int.reduceBEq, Nat.reduceLeDiff, q264, c4]
          exact hq
        · have d4 := of_decide_eq_false c4
          have e : decide (IntKind.i64.wrap (usedOf n + more) ≤ n.limit) = decide (more ≤ w64 (n.limit - usedOf n)) := by
            have w1 : IntKind.i64.wrap (usedOf n + more) = usedOf n + more := wrap_i64 (by omega) (by omega)
            have w2 : w64 (n.limit - usedOf n) = n.limit - usedOf n := wrap_i64 (by omega) (by omega)
            rw [w1, w2]
            by_cases h : more ≤ n.limit - usedOf n
            · rw [decide_eq_true h, decide_eq_true (by omega)]
            · rw [decide_eq_false h, decide_eq_false (by omega)]
          have h5 := Bool.eq_false_or_eq_true (decide (more ≤ w64 (n.limit - usedOf n)))
          rcases h5 with c5 | c5
          · rw [if_pos (.inr (of_decide_eq_true c5))] at hq
            rw [c5] at e
            simp -dsimp only [Vm.G, List.lookup, Nat.reduceAdd, Nat.reduceBEq, Int.reduceBNe, Int.reduceBEq, Nat.reduceLeDiff, q264, c4, e]
            exact hq
          · rw [if_neg (fun h => h.elim d4 (of_decide_eq_false c5))] at hq
            rw [c5] at e
            simp -dsimp only [Vm.G, List.lookup, Nat.reduceAdd, Nat.reduceBEq, Int.reduceBNe, Int.reduceBEq, Nat.reduceLeDiff, q264, c4, e]
            have h6 := Bool.eq_false_or_eq_true n.abs
            rcases h6 with c6 | c6
            · rw [c6] at hq
              simp -dsimp only [Vm.G, List.lookup, Nat.reduceAdd, Nat.reduceBEq, Int.reduceBNe, Int.reduceBEq, Nat.reduceLeDiff, q264, c6]
              exact hq
            · rw [c6] at hq
              simp -dsimp only [Vm.G, List.lookup, Nat.reduceAdd, Nat.reduceBEq, Int.reduceBNe, Int.reduceBEq, Nat.reduceLeDiff, q264, c6]
              exact hq
      · rw [if_pos (.inr (by rw [c3]; simp))] at hq
        simp -dsimp only [Vm.G, List.lookup, Nat.reduceAdd, Nat.reduceBEq, Int.reduceBNe, Int.reduceBEq, Nat.reduceLeDiff, q264, c3]
        exact hq
    · rw [if_pos (.inr (by rw [c2]; simp))] at hq
      simp -dsimp only [Vm.G, List.lookup, Nat.reduceAdd, Nat.reduceBEq, Int.reduceBNe, Int.reduceBEq, Nat.reduceLeDiff, q264, c2]
      exact hq
theorem max3_le (a b c : Int) : decide ((if (if a < b then b else a) < c then c else (if a < b then b else a)) > 9007199254740992) = !(decide (a ≤ 9007199254740992) && (decide (b ≤ 9007199254740992) && decide (c ≤ 9007199254740992))) := by
  by_cases h1 : a ≤ 9007199254740992 <;> by_cases h2 : b ≤ 9007199254740992 <;> by_cases h3 : c ≤ 9007199254740992 <;> simp only [h1, h2, h3, decide_true, decide_false, Bool.and_true, Bool.and_false, Bool.true_and, Bool.false_and, Bool.not_true, Bool.not_false, decide_eq_true_eq, decide_eq_false_iff_not] <;> (repeat' split) <;> omega
theorem min3_ge (a b c : Int) : decide ((if c < (if b < a then b else a) then c else (if b < a then b else a)) < -9007199254740992) = !(decide (-9007199254740992 ≤ a) && (decide (-9007199254740992 ≤ b) && decide (-9007199254740992 ≤ c))) := by
  by_cases h1 : -9007199254740992 ≤ a <;> by_cases h2 : -9007199254740992 ≤ b <;> by_cases h3 : -9007199254740992 ≤ c <;> simp only [h1, h2, h3, decide_true, decide_false, Bool.and_true, Bool.and_false, Bool.true_and, Bool.false_and, Bool.not_true, Bool.not_false, decide_eq_true_eq, decide_eq_false_iff_not] <;> (repeat' split) <;> omega
theorem chgRight_rng (c : Chg) : chgRight c = true ↔ (-9007199254740992 ≤ c.pre ∧ c.pre ≤ 9007199254740992) ∧ (-9007199254740992 ≤ c.enc ∧ c.enc ≤ 9007199254740992) ∧ (-9007199254740992 ≤ c.exp ∧ c.exp ≤ 9007199254740992) := by
  simp [chgRight, withinP, and_assoc]
theorem chargeRun_cons (c : Chg) (n : Nd) (r : List Nd) (f : Fun) (w : Bool) : chargeRun c (n :: r) f w = if (atOf c n).2.2 ≠ 0 then (f, false, (atOf c n).2.2) else chargeRun c r (upd f (ndK (atOf c n).1) (some (ndV (atOf c n).1))) (w || (atOf c n).2.1) := rfl
theorem at_nine {c : Chg} {n : Nd} (h : figs n = false ∨ figs (addC c n) = false) : (atOf c n).2.2 = 9 := by
  unfold atOf
  by_cases h1 : figs n = false
  · rw [if_pos h1]
  · rw [if_neg h1, if_pos (h.resolve_left h1)]
def rChargeSpec : Vm.Spec := fun args h Q => ∃ (R : RId) (f : Fun) (year id : Int) (c : Chg), args = [.ptr R.iv 0, .v (.int .i64 year), .v (.int .i64 id), .v (.int .i64 c.pre), .v (.int .i64 c.enc), .v (.int .i64 c.exp)] ∧ isRef h R f ∧ f.n ≤ 536870900 ∧
  ∀ h', isRef h' R (chargeOf f year id c).1 → Same h h' (rFoot R) → Q (.tup [.v (.bool (chargeOf f year id c).2.1), .v (.int .i64 (chargeOf f year id c).2.2)]) h'
set_option maxRecDepth 20000 in
set_option maxHeartbeats 4000000 in
theorem does_rCharge : Does Tryz.prog 228 rChargeSpec := by
  refine does_of_awp (good_cons does_rtPath (good_cons does_rFigure (good_cons does_rAllows (good_cons does_rtPut good_nil)))) Tryz.func228 rfl (by decide +kernel) (by decide +kernel) ?_
  rintro args h Q ⟨R, f, year, id, c, rfl, hR, hfn, hq⟩
  refine ⟨by simp [Tryz.f228], ?_⟩
  rw [awpFunc_some (by rfl)]
  unfold chargeOf at hq
  simp -dsimp only [Vm.G, List.lookup, Nat.reduceAdd, Nat.reduceBEq, Int.reduceBNe, Int.reduceBEq, Nat.reduceLeDiff, q228]
  refine call_one (S := rtPathSpec) rfl _ GaL.rfl ⟨R, f, year, id, rfl, hR, by omega, ?_⟩
  have hok := pathOf_ok f year 8 id
  have hlen := pathOf_length f year 8 id
  generalize pathOf f year 8 id = path at hok hlen hq ⊢
  simp -dsimp only [Vm.G, List.lookup, Nat.reduceAdd, Nat.reduceBEq, Int.reduceBNe, Int.reduceBEq, Nat.reduceLeDiff, q228]
  have h1 := Bool.eq_false_or_eq_true ((path.length : Int) == 0)
  rcases h1 with c1 | c1
  · have d1 : path.length = 0 := by have : (path.length : Int) = 0 := by simpa using c1
                                    omega
    rw [if_pos d1] at hq
    simp -dsimp only [Vm.G, List.lookup, Nat.reduceAdd, Nat.reduceBEq, Int.reduceBNe, Int.reduceBEq, Nat.reduceLeDiff, q228, c1]
    exact hq h hR (.refl _ _)
  · have d1 : ¬ path.length = 0 := by intro e; rw [e] at c1; simp at c1
    rw [if_neg d1] at hq
    have hmax := max3_le c.pre c.enc c.exp
    have hmin := min3_ge c.pre c.enc c.exp
    have hcr := chgRight_rng c
    simp -dsimp only [Vm.G, List.lookup, Nat.reduceAdd, Nat.reduceBEq, Int.reduceBNe, Int.reduceBEq, Nat.reduceLeDiff, q228, c1]
    have h2 := Bool.eq_false_or_eq_true (decide (c.pre ≤ 9007199254740992) && (decide (c.enc ≤ 9007199254740992) && decide (c.exp ≤ 9007199254740992)))
    rcases h2 with c2 | c2
    · rw [c2] at hmax
      have h3 := Bool.eq_false_or_eq_true (decide (-9007199254740992 ≤ c.pre) && (decide (-9007199254740992 ≤ c.enc) && decide (-9007199254740992 ≤ c.exp)))
      rcases h3 with c3 | c3
      · rw [c3] at hmin
        simp only [Bool.and_eq_true, decide_eq_true_eq] at c2 c3
        rw [if_neg (by rw [hcr.2 ⟨⟨c3.1, c2.1⟩, ⟨c3.2.1, c2.2.1⟩, ⟨c3.2.2, c2.2.2⟩⟩]; decide)] at hq
        clear hcr
        simp -dsimp only [Vm.G, List.lookup, Nat.reduceAdd, Nat.reduceBEq, Int.reduceBNe, Int.reduceBEq, Nat.reduceLeDiff, q228, hmax, hmin]
        refine awp_loop (fun m s h' => ∃ (i : Nat) (g : Fun) (w : Bool), i + m = path.length ∧ isRef h' R g ∧ g.n ≤ f.n + i ∧ Same h h' (rFoot R) ∧ chargeRun c (path.drop i) g w = chargeRun c path f false ∧ s = mk [(0, .ptr R.iv 0), (3, .v (.int .i64 c.pre)), (4, .v (.int .i64 c.enc)), (5, .v (.int .i64 c.exp)), (14, .own true 93 12 (path.map ndAv)), (15, .v (.bool w)), (16, .v (.int .i64 (i : Nat)))])
          path.length _ (le_mk _ ?_) ⟨0, f, false, by omega, hR, by omega, .refl _ _, rfl, rfl⟩ ?_
        · simp only [List.forall_mem_cons, List.not_mem_nil, false_imp_iff, implies_true, and_true]
          try simp -dsimp only [Vm.G, List.lookup, Nat.reduceAdd, Nat.reduceBEq, Int.reduceBNe, Int.reduceBEq, Nat.reduceLeDiff, q228]
          repeat' first | exact Fg.refl _ | exact Fg.nil _ _ _ (by decide) | refine And.intro ?_ ?_
        · clear hR hmax hmin
          rintro m s h' ⟨i, g, w, hi, hR, hgn, hsm, hp, rfl⟩
          simp -dsimp only [Vm.G, List.lookup, Nat.reduceAdd, Nat.reduceBEq, Int.reduceBNe, Int.reduceBEq, Nat.reduceLeDiff, q228]
          refine cond_intro (fun hcc => ?_) (fun hcc => ?_)
          · have hlt : i < path.length := by have := of_decide_eq_true hcc; omega
            have hw : IntKind.i64.wrap ((i : Int) + 1) = ((i + 1 : Nat) : Int) := by rw [wrap_i64 (by omega) (by omega)]; simp
            have hn := hok path[i] (List.getElem_mem hlt)
            have hgi : (path.map ndAv)[i]? = some (ndAv path[i]) := by rw [List.getElem?_map, List.getElem?_eq_getElem hlt]; rfl
            rw [List.drop_eq_getElem_cons hlt] at hp
            generalize path[i] = n at hn hgi hp
            rw [chargeRun_cons] at hp
            simp -dsimp only [Vm.G, List.lookup, Nat.reduceAdd, Nat.reduceBEq, Int.reduceBNe, Int.reduceBEq, Nat.reduceLeDiff, q228]
            refine idxO_intro (xs := path.map ndAv) (by omega) (by simp; omega) ?_
            simp -dsimp only [Vm.G, List.lookup, Nat.reduceAdd, Nat.reduceBEq, Int.reduceBNe, Int.reduceBEq, Nat.reduceLeDiff, q228, Int.toNat_natCast]
            refine eltA_intro (xs := path.map ndAv) hgi ?_
            simp only [ndAv, ndCells]
            simp -dsimp only [Vm.G, List.lookup, Nat.reduceAdd, Nat.reduceBEq, Int.reduceBNe, Int.reduceBEq, Nat.reduceLeDiff, q228, AV.cells, List.drop_zero]
            refine call_one (S := predSpec figureP) rfl _ GaL.rfl ⟨n.pre, rfl, ?_⟩
            have k1 := Bool.eq_false_or_eq_true (figureP n.pre)
            rcases k1 with k1 | k1
            · simp -dsimp only [Vm.G, List.lookup, Nat.reduceAdd, Nat.reduceBEq, Int.reduceBNe, Int.reduceBEq, Nat.reduceLeDiff, q228, k1]
              refine call_one (S := predSpec figureP) rfl _ GaL.rfl ⟨n.enc, rfl, ?_⟩
              have k2 := Bool.eq_false_or_eq_true (figureP n.enc)
              rcases k2 with k2 | k2
              · simp -dsimp only [Vm.G, List.lookup, Nat.reduceAdd, Nat.reduceBEq, Int.reduceBNe, Int.reduceBEq, Nat.reduceLeDiff, q228, k2]
                refine call_one (S := predSpec figureP) rfl _ GaL.rfl ⟨n.exp, rfl, ?_⟩
                have k3 := Bool.eq_false_or_eq_true (figureP n.exp)
                rcases k3 with k3 | k3
                · simp -dsimp only [Vm.G, List.lookup, Nat.reduceAdd, Nat.reduceBEq, Int.reduceBNe, Int.reduceBEq, Nat.reduceLeDiff, q228, k3]
                  refine call_one (S := predSpec figureP) rfl _ GaL.rfl ⟨(addC c n).pre, rfl, ?_⟩
                  have k4 := Bool.eq_false_or_eq_true (figureP (addC c n).pre)
                  rcases k4 with k4 | k4
                  · simp -dsimp only [Vm.G, List.lookup, Nat.reduceAdd, Nat.reduceBEq, Int.reduceBNe, Int.reduceBEq, Nat.reduceLeDiff, q228, k4]
                    refine call_one (S := predSpec figureP) rfl _ GaL.rfl ⟨(addC c n).enc, rfl, ?_⟩
                    have k5 := Bool.eq_false_or_eq_true (figureP (addC c n).enc)
                    rcases k5 with k5 | k5
                    · simp -dsimp only [Vm.G, List.lookup, Nat.reduceAdd, Nat.reduceBEq, Int.reduceBNe, Int.reduceBEq, Nat.reduceLeDiff, q228, k5]
                      refine call_one (S := predSpec figureP) rfl _ GaL.rfl ⟨(addC c n).exp, rfl, ?_⟩
                      have k6 := Bool.eq_false_or_eq_true (figureP (addC c n).exp)
                      rcases k6 with k6 | k6
                      · simp -dsimp only [Vm.G, List.lookup, Nat.reduceAdd, Nat.reduceBEq, Int.reduceBNe, Int.reduceBEq, Nat.reduceLeDiff, q228, k6]
                        have f1 : figs n = true := by simp only [figs, k1, k2, k3, Bool.and_self]
                        have f2 : figs (addC c n) = true := by simp only [figs, k4, k5, k6, Bool.and_self]
                        have hat : atOf c n = if (allowsOf n (chgSum c)).1 = false then (.zero, false, 11) else (addC c n, (allowsOf n (chgSum c)).2, 0) := by
                          unfold atOf
                          rw [if_neg (by rw [f1]; decide), if_neg (by rw [f2]; decide)]
                        rw [hat] at hp
                        clear hat
                        refine call_one (S := allowsSpec) rfl _ GaL.rfl ⟨n, chgSum c, rfl, ?_⟩
                        generalize allowsOf n (chgSum c) = q at hp ⊢
                        rcases q with ⟨qa, qb⟩
                        have h8 := Bool.eq_false_or_eq_true qa
                        rcases h8 with c8 | c8
                        · subst c8
                          have hp : chargeRun c (path.drop (i + 1)) (upd g (ndK (addC c n)) (some (ndV (addC c n)))) (w || qb) = chargeRun c path f false := hp
                          have han := addC_ok c n hn
                          have hnc : ndCells (addC c n) = [.v (.int .i64 n.year), .v (.int .i64 n.id), .v (.int .i64 n.parent), .v (.int .i64 n.fund), .v (.int .i64 n.obj), .v (.bool n.abs), .v (.int .i64 n.limit), .v (.int .i64 (IntKind.i64.wrap (n.pre + c.pre))), .v (.int .i64 (IntKind.i64.wrap (n.enc + c.enc))), .v (.int .i64 (IntKind.i64.wrap (n.exp + c.exp))), .v (.int .i64 n.lapsed), .v (.int .i64 n.carried)] := rfl
                          generalize addC c n = x at han hnc hp
                          simp -dsimp only [Vm.G, List.lookup, Nat.reduceAdd, Nat.reduceBEq, Int.reduceBNe, Int.reduceBEq, Nat.reduceLeDiff, q228]
                          cases w
                          · simp -dsimp only [Vm.G, List.lookup, Nat.reduceAdd, Nat.reduceBEq, Int.reduceBNe, Int.reduceBEq, Nat.reduceLeDiff, q228]
                            refine call_one (S := rtPutSpec) rfl _ GaL.rfl ⟨R, g, x, by rw [hnc], han, hR, by omega, fun h2 g1 g2 => ?_⟩
                            simp -dsimp only [Vm.G, List.lookup, Nat.reduceAdd, Nat.reduceBEq, Int.reduceBNe, Int.reduceBEq, Nat.reduceLeDiff, q228]
                            refine kept_intro ⟨path.length - (i + 1), by omega, _, le_mk [(0, .ptr R.iv 0), (3, .v (.int .i64 c.pre)), (4, .v (.int .i64 c.enc)), (5, .v (.int .i64 c.exp)), (14, .own true 93 12 (path.map ndAv)), (15, .v (.bool qb)), (16, .v (.int .i64 (i + 1 : Nat)))] ?_, i + 1, _, qb, by omega, g1, by show g.n + 1 ≤ _; omega, hsm.trans g2, hp, rfl⟩
                            simp only [List.forall_mem_cons, List.not_mem_nil, false_imp_iff, implies_true, and_true, hw]
                            try simp -dsimp only [Vm.G, List.lookup, Nat.reduceAdd, Nat.reduceBEq, Int.reduceBNe, Int.reduceBEq, Nat.reduceLeDiff, q228, hw]
                            repeat' first | exact Fg.refl _ | exact Fg.nil _ _ _ (by decide) | refine And.intro ?_ ?_
                          · simp -dsimp only [Vm.G, List.lookup, Nat.reduceAdd, Nat.reduceBEq, Int.reduceBNe, Int.reduceBEq, Nat.reduceLeDiff, q228]
                            refine call_one (S := rtPutSpec) rfl _ GaL.rfl ⟨R, g, x, by rw [hnc], han, hR, by omega, fun h2 g1 g2 => ?_⟩
                            simp -dsimp only [Vm.G, List.lookup, Nat.reduceAdd, Nat.reduceBEq, Int.reduceBNe, Int.reduceBEq, Nat.reduceLeDiff, q228]
                            refine kept_intro ⟨path.length - (i + 1), by omega, _, le_mk [(0, .ptr R.iv 0), (3, .v (.int .i64 c.pre)), (4, .v (.int .i64 c.enc)), (5, .v (.int .i64 c.exp)), (14, .own true 93 12 (path.map ndAv)), (15, .v (.bool true)), (16, .v (.int .i64 (i + 1 : Nat)))] ?_, i + 1, _, true, by omega, g1, by show g.n + 1 ≤ _; omega, hsm.trans g2, hp, rfl⟩
                            simp only [List.forall_mem_cons, List.not_mem_nil, false_imp_iff, implies_true, and_true, hw]
                            try simp -dsimp only [Vm.G, List.lookup, Nat.reduceAdd, Nat.reduceBEq, Int.reduceBNe, Int.reduceBEq, Nat.reduceLeDiff, q228, hw]
                            repeat' first | exact Fg.refl _ | exact Fg.nil _ _ _ (by decide) | refine And.intro ?_ ?_
                        · subst c8
                          have hp : (g, false, (11 : Int)) = chargeRun c path f false := hp
                          rw [← hp] at hq
                          simp -dsimp only [Vm.G, List.lookup, Nat.reduceAdd, Nat.reduceBEq, Int.reduceBNe, Int.reduceBEq, Nat.reduceLeDiff, q228]
                          exact hq h' hR hsm
                      · have h9 := at_nine (c := c) (n := n) (.inr (by simp only [figs, k6, Bool.and_false, Bool.false_and]))
                        have hp9 : (g, false, (9 : Int)) = chargeRun c path f false := by rw [← hp, h9]; rfl
                        rw [← hp9] at hq
                        simp -dsimp only [Vm.G, List.lookup, Nat.reduceAdd, Nat.reduceBEq, Int.reduceBNe, Int.reduceBEq, Nat.reduceLeDiff, q228, k6]
                        exact hq h' hR hsm
                    · have h9 := at_nine (c := c) (n := n) (.inr (by simp only [figs, k5, Bool.and_false, Bool.false_and]))
                      have hp9 : (g, false, (9 : Int)) = chargeRun c path f false := by rw [← hp, h9]; rfl
                      rw [← hp9] at hq
                      simp -dsimp only [Vm.G, List.lookup, Nat.reduceAdd, Nat.reduceBEq, Int.reduceBNe, Int.reduceBEq, Nat.reduceLeDiff, q228, k5]
                      exact hq h' hR hsm
                  · have h9 := at_nine (c := c) (n := n) (.inr (by simp only [figs, k4, Bool.and_false, Bool.false_and]))
                    have hp9 : (g, false, (9 : Int)) = chargeRun c path f false := by rw [← hp, h9]; rfl
                    rw [← hp9] at hq
                    simp -dsimp only [Vm.G, List.lookup, Nat.reduceAdd, Nat.reduceBEq, Int.reduceBNe, Int.reduceBEq, Nat.reduceLeDiff, q228, k4]
                    exact hq h' hR hsm
                · have h9 := at_nine (c := c) (n := n) (.inl (by simp only [figs, k3, Bool.and_false, Bool.false_and]))
                  have hp9 : (g, false, (9 : Int)) = chargeRun c path f false := by rw [← hp, h9]; rfl
                  rw [← hp9] at hq
                  simp -dsimp only [Vm.G, List.lookup, Nat.reduceAdd, Nat.reduceBEq, Int.reduceBNe, Int.reduceBEq, Nat.reduceLeDiff, q228, k3]
                  exact hq h' hR hsm
              · have h9 := at_nine (c := c) (n := n) (.inl (by simp only [figs, k2, Bool.and_false, Bool.false_and]))
                have hp9 : (g, false, (9 : Int)) = chargeRun c path f false := by rw [← hp, h9]; rfl
                rw [← hp9] at hq
                simp -dsimp only [Vm.G, List.lookup, Nat.reduceAdd, Nat.reduceBEq, Int.reduceBNe, Int.reduceBEq, Nat.reduceLeDiff, q228, k2]
                exact hq h' hR hsm
            · have h9 := at_nine (c := c) (n := n) (.inl (by simp only [figs, k1, Bool.and_false, Bool.false_and]))
              have hp9 : (g, false, (9 : Int)) = chargeRun c path f false := by rw [← hp, h9]; rfl
              rw [← hp9] at hq
              simp -dsimp only [Vm.G, List.lookup, Nat.reduceAdd, Nat.reduceBEq, Int.reduceBNe, Int.reduceBEq, Nat.reduceLeDiff, q228, k1]
              exact hq h' hR hsm
          · have hge : ¬ i < path.length := by have := of_decide_eq_false hcc; omega
            rw [List.drop_of_length_le (by omega)] at hp
            have hp : (g, w, (0 : Int)) = chargeRun c path f false := hp
            rw [← hp] at hq
            simp -dsimp only [Vm.G, List.lookup, Nat.reduceAdd, Nat.reduceBEq, Int.reduceBNe, Int.reduceBEq, Nat.reduceLeDiff, q228]
            exact hq h' hR hsm
      · rw [c3] at hmin
        rw [if_pos (by
          cases hb : chgRight c
          · rfl
          · have := hcr.1 hb
            simp only [decide_eq_true this.1.1, decide_eq_true this.2.1.1, decide_eq_true this.2.2.1] at c3
            cases c3)] at hq
        simp -dsimp only [Vm.G, List.lookup, Nat.reduceAdd, Nat.reduceBEq, Int.reduceBNe, Int.reduceBEq, Nat.reduceLeDiff, q228, hmax, hmin]
        exact hq h hR (.refl _ _)
    · rw [c2] at hmax
      rw [if_pos (by
        cases hb : chgRight c
        · rfl
        · have := hcr.1 hb
          simp only [decide_eq_true this.1.2, decide_eq_true this.2.1.2, decide_eq_true this.2.2.2] at c2
          cases c2)] at hq
      simp -dsimp only [Vm.G, List.lookup, Nat.reduceAdd, Nat.reduceBEq, Int.reduceBNe, Int.reduceBEq, Nat.reduceLeDiff, q228, hmax]
      exact hq h hR (.refl _ _)
set_option maxHeartbeats 1000000 in
theorem does_rPreCheck : Does Tryz.prog 73 preCheckSpec := by
  refine does_of_awp (good_cons does_rAmt good_nil) Tryz.func73 rfl (by decide +kernel) (by decide +kernel) ?_
  rintro args h Q ⟨l, hl, rfl, hq⟩
  refine ⟨by simp [Tryz.f73], ?_⟩
  rw [awpFunc_some (by rfl)]
  unfold preCheck at hq
  simp -dsimp only [Vm.G, List.lookup, Nat.reduceAdd, Nat.reduceBEq, Int.reduceBNe, Int.reduceBEq, Nat.reduceLeDiff, q73]
  have h1 := Bool.eq_false_or_eq_true (decide ((l.length : Int) < 1))
  rcases h1 with c1 | c1
  · have d1 := of_decide_eq_true c1
    rw [if_pos (.inl (by omega))] at hq
    simp -dsimp only [Vm.G, List.lookup, Nat.reduceAdd, Nat.reduceBEq, Int.reduceBNe, Int.reduceBEq, Nat.reduceLeDiff, q73, c1]
    exact hq
  · have d1 := of_decide_eq_false c1
    simp -dsimp only [Vm.G, List.lookup, Nat.reduceAdd, Nat.reduceBEq, Int.reduceBNe, Int.reduceBEq, Nat.reduceLeDiff, q73, c1]
    have h2 := Bool.eq_false_or_eq_true (decide ((l.length : Int) > 6))
    rcases h2 with c2 | c2
    · have d2 := of_decide_eq_true c2
      rw [if_pos (.inr (.inl (by omega)))] at hq
      simp -dsimp only [Vm.G, List.lookup, Nat.reduceAdd, Nat.reduceBEq, Int.reduceBNe, Int.reduceBEq, Nat.reduceLeDiff, q73, c2]
      exact hq
    · have d2 := of_decide_eq_false c2
      simp -dsimp only [Vm.G, List.lookup, Nat.reduceAdd, Nat.reduceBEq, Int.reduceBNe, Int.reduceBEq, Nat.reduceLeDiff, q73, c2]
      refine awp_loop (fun m s h' => ∃ i : Nat, i + m = l.length ∧ h' = h ∧ (∀ j (hj : j < l.length), j < i → wrongL l[j] = false) ∧ s = mk [(0, .sl 4 (l.map lnAv)), (3, .v (.int .i64 (i : Nat)))])
        l.length _ (le_mk _ ?_) ⟨0, by omega, rfl, fun _ _ hj => by omega, rfl⟩ ?_
      · simp only [List.forall_mem_cons, List.not_mem_nil, false_imp_iff, implies_true, and_true]
        try simp -dsimp only [Vm.G, List.lookup, Nat.reduceAdd, Nat.reduceBEq, Int.reduceBNe, Int.reduceBEq, Nat.reduceLeDiff, q73]
        repeat' first | exact Fg.refl _ | exact Fg.nil _ _ _ (by decide) | refine And.intro ?_ ?_
      · rintro m s h' ⟨i, hi, rfl, hb, rfl⟩
        simp -dsimp only [Vm.G, List.lookup, Nat.reduceAdd, Nat.reduceBEq, Int.reduceBNe, Int.reduceBEq, Nat.reduceLeDiff, q73]
        refine cond_intro (fun hcc => ?_) (fun hcc => ?_)
        · have hlt : i < l.length := by have := of_decide_eq_true hcc; omega
          have hw : IntKind.i64.wrap ((i : Int) + 1) = ((i + 1 : Nat) : Int) := by rw [wrap_i64 (by omega) (by omega)]; simp
          have hxe : ∃ x, l[i] = x := ⟨_, rfl⟩
          rcases hxe with ⟨x, hx⟩
          simp -dsimp only [Vm.G, List.lookup, Nat.reduceAdd, Nat.reduceBEq, Int.reduceBNe, Int.reduceBEq, Nat.reduceLeDiff, q73]
          refine idx_map lnAv l i hlt ?_
          simp only [hx, lnAv, lnCells]
          simp -dsimp only [Vm.G, List.lookup, Nat.reduceAdd, Nat.reduceBEq, Int.reduceBNe, Int.reduceBEq, Nat.reduceLeDiff, q73, AV.cells]
          refine call_one (S := predSpec rightA) rfl _ GaL.rfl ⟨x.amt, rfl, ?_⟩
          have h3 := Bool.eq_false_or_eq_true (rightA x.amt)
          rcases h3 with c3 | c3
          · have hwx : wrongL x = false := by unfold wrongL; rw [c3]; rfl
            simp -dsimp only [Vm.G, List.lookup, Nat.reduceAdd, Nat.reduceBEq, Int.reduceBNe, Int.reduceBEq, Nat.reduceLeDiff, q73, c3]
            refine kept_intro ⟨l.length - (i + 1), by omega, _, le_mk [(0, .sl 4 (l.map lnAv)), (3, .v (.int .i64 (i + 1 : Nat)))] ?_, i + 1, by omega, rfl, fun j hj hj2 => ?_, rfl⟩
            · simp only [List.forall_mem_cons, List.not_mem_nil, false_imp_iff, implies_true, and_true, hw]
              try simp -dsimp only [Vm.G, List.lookup, Nat.reduceAdd, Nat.reduceBEq, Int.reduceBNe, Int.reduceBEq, Nat.reduceLeDiff, q73, hw]
              repeat' first | exact Fg.refl _ | exact Fg.nil _ _ _ (by decide) | refine And.intro ?_ ?_
            · by_cases hji : j = i
              · subst hji; rw [hx]; exact hwx
              · exact hb j hj (by omega)
          · have hwx : wrongL x = true := by unfold wrongL; rw [c3]; rfl
            rw [if_pos (.inr (.inr (List.any_eq_true.2 ⟨x, hx ▸ List.getElem_mem hlt, hwx⟩)))] at hq
            simp -dsimp only [Vm.G, List.lookup, Nat.reduceAdd, Nat.reduceBEq, Int.reduceBNe, Int.reduceBEq, Nat.reduceLeDiff, q73, c3]
            exact hq
        · have hge : ¬ i < l.length := by have := of_decide_eq_false hcc; omega
          have hany : l.any wrongL = false := by
            cases ha : l.any wrongL
            · rfl
            · obtain ⟨x, hxm, hwx⟩ := List.any_eq_true.1 ha
              obtain ⟨j, hj, rfl⟩ := List.getElem_of_mem hxm
              rw [hb j hj (by omega)] at hwx; cases hwx
          rw [if_neg (fun h => h.elim (fun h => by omega) fun h => h.elim (fun h => by omega) fun h => by rw [hany] at h; cases h)] at hq
          simp -dsimp only [Vm.G, List.lookup, Nat.reduceAdd, Nat.reduceBEq, Int.reduceBNe, Int.reduceBEq, Nat.reduceLeDiff, q73]
          exact hq
def firstOf (f : Fun) (year : Int) (l : List Ln) : Int := if checkY f year ≠ 0 then checkY f year else preCheck l
def rFirstSpec : Vm.Spec := fun args h Q => ∃ (R : RId) (f : Fun) (year : Int) (l : List Ln), l.length ≤ 9223372036854775807 ∧ args = [.ptr R.iv 0, .v (.int .i64 year), .sl 4 (l.map lnAv)] ∧ isRef h R f ∧ f.n ≤ 536870912 ∧ Q (.v (.int .i64 (firstOf f year l))) h
theorem does_rFirst : Does Tryz.prog 148 rFirstSpec := by
  refine does_of_awp (good_cons does_rCheck (good_cons does_rPreCheck good_nil)) Tryz.func148 rfl (by decide +kernel) (by decide +kernel) ?_
  rintro args h Q ⟨R, f, year, l, hl, rfl, hR, hfn, hq⟩
  refine ⟨by simp [Tryz.f148], ?_⟩
  rw [awpFunc_some (by rfl)]
  unfold firstOf at hq
  simp -dsimp only [Vm.G, List.lookup, Nat.reduceAdd, Nat.reduceBEq, Int.reduceBNe, Int.reduceBEq, Nat.reduceLeDiff, q148]
  refine call_one (S := rCheckSpec) rfl _ GaL.rfl ⟨R, f, year, rfl, hR, hfn, ?_⟩
  generalize checkY f year = e at hq ⊢
  simp -dsimp only [Vm.G, List.lookup, Nat.reduceAdd, Nat.reduceBEq, Int.reduceBNe, Int.reduceBEq, Nat.reduceLeDiff, q148]
  have h1 := Bool.eq_false_or_eq_true (e != 0)
  rcases h1 with c1 | c1
  · rw [if_pos (by simpa using c1)] at hq
    simp -dsimp only [Vm.G, List.lookup, Nat.reduceAdd, Nat.reduceBEq, Int.reduceBNe, Int.reduceBEq, Nat.reduceLeDiff, q148, c1]
    exact hq
  · rw [if_neg (by simpa using c1)] at hq
    simp -dsimp only [Vm.G, List.lookup, Nat.reduceAdd, Nat.reduceBEq, Int.reduceBNe, Int.reduceBEq, Nat.reduceLeDiff, q148, c1]
    refine call_one (S := preCheckSpec) rfl _ GaL.rfl ⟨l, hl, rfl, ?_⟩
    simp -dsimp only [Vm.G, List.lookup, Nat.reduceAdd, Nat.reduceBEq, Int.reduceBNe, Int.reduceBEq, Nat.reduceLeDiff, q148]
    exact hq
theorem does_rLines : Does Tryz.prog 149 linesSpec := by
  refine does_of_awp good_nil Tryz.func149 rfl (by decide +kernel) (by decide +kernel) ?_
  rintro args h Q ⟨l, hl, rfl, hq⟩
  refine ⟨by simp [Tryz.f149], ?_⟩
  rw [awpFunc_some (by rfl)]
  simp -dsimp only [Vm.G, List.lookup, Nat.reduceAdd, Nat.reduceBEq, Int.reduceBNe, Int.reduceBEq, Nat.reduceLeDiff, q149]
  refine awp_loop (fun m s h' => ∃ i : Nat, i + m = l.length ∧ h' = h ∧ s = mk [(0, .sl 4 (l.map lnAv)), (3, .own true 62 4 ((ownL (l.take i)).map dlAv)), (4, .v (.int .i64 (i : Nat)))])
    l.length _ (le_mk _ ?_) ⟨0, by omega, rfl, rfl⟩ ?_
  · simp only [List.forall_mem_cons, List.not_mem_nil, false_imp_iff, implies_true, and_true]
    try simp -dsimp only [Vm.G, List.lookup, Nat.reduceAdd, Nat.reduceBEq, Int.reduceBNe, Int.reduceBEq, Nat.reduceLeDiff, q149]
    repeat' first | exact Fg.refl _ | exact Fg.nil _ _ _ (by decide) | refine And.intro ?_ ?_
  · rintro m s h' ⟨i, hi, rfl, rfl⟩
    simp -dsimp only [Vm.G, List.lookup, Nat.reduceAdd, Nat.reduceBEq, Int.reduceBNe, Int.reduceBEq, Nat.reduceLeDiff, q149]
    refine cond_intro (fun hcc => ?_) (fun hcc => ?_)
    · have hlt : i < l.length := by have := of_decide_eq_true hcc; omega
      have hw : IntKind.i64.wrap ((i : Int) + 1) = ((i + 1 : Nat) : Int) := by rw [wrap_i64 (by omega) (by omega)]; simp
      have est : ownL (l.take (i + 1)) = ownL (l.take i) ++ [⟨l[i].node, l[i].amt, 0, 0⟩] := by
        unfold ownL
        rw [List.take_succ_eq_append_getElem hlt, List.map_append]; rfl
      have hol : (ownL (l.take i)).length ≤ i := by unfold ownL; rw [List.length_map, List.length_take]; omega
      have hxe : ∃ x, l[i] = x := ⟨_, rfl⟩
      rcases hxe with ⟨x, hx⟩
      rw [hx] at est
      simp -dsimp only [Vm.G, List.lookup, Nat.reduceAdd, Nat.reduceBEq, Int.reduceBNe, Int.reduceBEq, Nat.reduceLeDiff, q149]
      refine draw_cont [] (.take 0 (.take 1 (.take 2 (.take 3 (.take 4 (.take 5 (.take 6 (.take 7 (.take 8 (.take 9 (.take 10 (.alt 11 (.alt 12 (.alt 13 (.alt 14 (.done) .stop) .stop) .stop) .stop)))))))))))) (fun s h2 => h2 = h' ∧ s 0 = .sl 4 (l.map lnAv) ∧ s 3 = .own true 62 4 ((ownL (l.take (i + 1))).map dlAv) ∧ s 4 = .v (.int .i64 (i : Nat))) (by kernel_rfl) (by kernel_rfl) (by kernel_rfl) (by decide) ?_ ?_
      · simp -dsimp only [Vm.G, List.lookup, Nat.reduceAdd, Nat.reduceBEq, Int.reduceBNe, Int.reduceBEq, Nat.reduceLeDiff, q149]
        refine idx_map lnAv l i hlt ?_
        simp only [hx, lnAv, lnCells]
        simp -dsimp only [Vm.G, List.lookup, Nat.reduceAdd, Nat.reduceBEq, Int.reduceBNe, Int.reduceBEq, Nat.reduceLeDiff, q149, AV.cells]
        refine idx_map lnAv l i hlt ?_
        simp only [hx, lnAv, lnCells]
        simp -dsimp only [Vm.G, List.lookup, Nat.reduceAdd, Nat.reduceBEq, Int.reduceBNe, Int.reduceBEq, Nat.reduceLeDiff, q149, AV.cells]
        refine bs_intro zr62 (by decide) (by decide) rfl rfl (by simp [solid, AV.cells]) ?_
        simp -dsimp only [Vm.G, List.lookup, Nat.reduceAdd, Nat.reduceBEq, Int.reduceBNe, Int.reduceBEq, Nat.reduceLeDiff, q149]
        refine app_sl Tryz.underlying55 (by simp [AV.cells]) (by simp only [List.length_map, List.length_cons, List.length_nil]; omega) ?_
        simp -dsimp only [Vm.G, List.lookup, Nat.reduceAdd, Nat.reduceBEq, Int.reduceBNe, Int.reduceBEq, Nat.reduceLeDiff, q149]
        simp only [est, List.map_append, List.map_cons, List.map_nil, dlAv, dlCells]
        repeat' first | rfl | exact True.intro | refine And.intro ?_ ?_
      · rintro s h2 ⟨rfl, e0, e3, e4⟩
        simp -dsimp only [Vm.G, List.lookup, Nat.reduceAdd, Nat.reduceBEq, Int.reduceBNe, Int.reduceBEq, Nat.reduceLeDiff, q149, e0, e3, e4]
        refine kept_intro ⟨l.length - (i + 1), by omega, _, le_mk [(0, .sl 4 (l.map lnAv)), (3, .own true 62 4 ((ownL (l.take (i + 1))).map dlAv)), (4, .v (.int .i64 (i + 1 : Nat)))] ?_, i + 1, by omega, rfl, rfl⟩
        simp only [List.forall_mem_cons, List.not_mem_nil, false_imp_iff, implies_true, and_true, hw, e0, e3, e4]
        try simp -dsimp only [Vm.G, List.lookup, Nat.reduceAdd, Nat.reduceBEq, Int.reduceBNe, Int.reduceBEq, Nat.reduceLeDiff, q149, hw, e0, e3, e4]
        repeat' first | exact Fg.refl _ | exact Fg.nil _ _ _ (by decide) | refine And.intro ?_ ?_
    · have hge : ¬ i < l.length := by have := of_decide_eq_false hcc; omega
      simp -dsimp only [Vm.G, List.lookup, Nat.reduceAdd, Nat.reduceBEq, Int.reduceBNe, Int.reduceBEq, Nat.reduceLeDiff, q149]
      rw [List.take_of_length_le (by omega)]
      exact hq
/-- So many times the original. -/
def mkR (p e x : Int) (d : Dl) : Chg := ⟨w64 (p * d.orig), w64 (e * d.orig), w64 (x * d.orig)⟩
def rChargeLSpec : Vm.Spec := fun args h Q => ∃ (R : RId) (f : Fun) (year : Int) (l : List Dl) (p e x : Int), l.length ≤ 1048576 ∧ args = [.ptr R.iv 0, .v (.int .i64 year), .sl 4 (l.map dlAv), .v (.int .i64 p), .v (.int .i64 e), .v (.int .i64 x)] ∧ isRef h R f ∧ f.n ≤ 268435456 ∧
  ∀ h', isRef h' R (chargeG (mkR p e x) year l f false).1 → Same h h' (rFoot R) → Q (.tup [.v (.bool (chargeG (mkR p e x) year l f false).2.1), .v (.int .i64 (chargeG (mkR p e x) year l f false).2.2)]) h'
attribute [local irreducible] chargeOf chargeG docsPut
set_option maxHeartbeats 1000000 in
theorem does_rChargeL : Does Tryz.prog 150 rChargeLSpec := by
  refine does_of_awp (good_cons does_rCharge good_nil) Tryz.func150 rfl (by decide +kernel) (by decide +kernel) ?_
  rintro args h Q ⟨R, f, year, l, p, e, x, hl, rfl, hR, hfn, hq⟩
  refine ⟨by simp [Tryz.f150], ?_⟩
  rw [awpFunc_some (by rfl)]
  simp -dsimp only [Vm.G, List.lookup, Nat.reduceAdd, Nat.reduceBEq, Int.reduceBNe, Int.reduceBEq, Nat.reduceLeDiff, q150]
  refine awp_loop (fun m s h' => ∃ (i : Nat) (g : Fun) (w : Bool), i + m = l.length ∧ isRef h' R g ∧ g.n ≤ f.n + 8 * i ∧ Same h h' (rFoot R) ∧ chargeG (mkR p e x) year (l.drop i) g w = chargeG (mkR p e x) year l f false ∧ s = mk [(0, .ptr R.iv 0), (1, .v (.int .i64 year)), (2, .sl 4 (l.map dlAv)), (3, .v (.int .i64 p)), (4, .v (.int .i64 e)), (5, .v (.int .i64 x)), (14, .v (.bool w)), (15, .v (.int .i64 (i : Nat)))])
    l.length _ (le_mk _ ?_) ⟨0, f, false, by omega, hR, by omega, .refl _ _, rfl, rfl⟩ ?_
  · simp only [List.forall_mem_cons, List.not_mem_nil, false_imp_iff, implies_true, and_true]
    try simp -dsimp only [Vm.G, List.lookup, Nat.reduceAdd, Nat.reduceBEq, Int.reduceBNe, Int.reduceBEq, Nat.reduceLeDiff, q150]
    repeat' first | exact Fg.refl _ | exact Fg.nil _ _ _ (by decide) | refine And.intro ?_ ?_
  · clear hR
    rintro m s h' ⟨i, g, w, hi, hR, hgn, hsm, hp, rfl⟩
    simp -dsimp only [Vm.G, List.lookup, Nat.reduceAdd, Nat.reduceBEq, Int.reduceBNe, Int.reduceBEq, Nat.reduceLeDiff, q150]
    refine cond_intro (fun hcc => ?_) (fun hcc => ?_)
    · have hlt : i < l.length := by have := of_decide_eq_true hcc; omega
      have hw : IntKind.i64.wrap ((i : Int) + 1) = ((i + 1 : Nat) : Int) := by rw [wrap_i64 (by omega) (by omega)]; simp
      rw [List.drop_eq_getElem_cons hlt] at hp
      have hxe : ∃ y, l[i] = y := ⟨_, rfl⟩
      rcases hxe with ⟨y, hy⟩
      rw [hy] at hp
      have hcn := chargeOf_n g year y.node (mkR p e x y)
      simp -dsimp only [Vm.G, List.lookup, Nat.reduceAdd, Nat.reduceBEq, Int.reduceBNe, Int.reduceBEq, Nat.reduceLeDiff, q150]
      refine idx_map dlAv l i hlt ?_
      simp only [hy, dlAv, dlCells]
      simp -dsimp only [Vm.G, List.lookup, Nat.reduceAdd, Nat.reduceBEq, Int.reduceBNe, Int.reduceBEq, Nat.reduceLeDiff, q150, AV.cells]
      refine idx_map dlAv l i hlt ?_
      simp only [hy, dlAv, dlCells]
      simp -dsimp only [Vm.G, List.lookup, Nat.reduceAdd, Nat.reduceBEq, Int.reduceBNe, Int.reduceBEq, Nat.reduceLeDiff, q150, AV.cells]
      refine call_one (S := rChargeSpec) rfl _ GaL.rfl ⟨R, g, year, y.node, mkR p e x y, rfl, hR, by omega, fun h2 g1 g2 => ?_⟩
      rw [chargeG_cons] at hp
      generalize chargeOf g year y.node (mkR p e x y) = q at hp g1 hcn ⊢
      rcases q with ⟨qf, qw, qe⟩
      simp only at hp g1 hcn ⊢
      simp -dsimp only [Vm.G, List.lookup, Nat.reduceAdd, Nat.reduceBEq, Int.reduceBNe, Int.reduceBEq, Nat.reduceLeDiff, q150]
      have h1 := Bool.eq_false_or_eq_true (qe != 0)
      rcases h1 with c1 | c1
      · have d1 : qe ≠ 0 := by simpa using c1
        rw [if_pos d1] at hp
        rw [← hp] at hq
        simp -dsimp only [Vm.G, List.lookup, Nat.reduceAdd, Nat.reduceBEq, Int.reduceBNe, Int.reduceBEq, Nat.reduceLeDiff, q150, c1]
        exact hq h2 g1 (hsm.trans g2)
      · have d1 : ¬ qe ≠ 0 := by simpa using c1
        rw [if_neg d1] at hp
        simp -dsimp only [Vm.G, List.lookup, Nat.reduceAdd, Nat.reduceBEq, Int.reduceBNe, Int.reduceBEq, Nat.reduceLeDiff, q150, c1]
        cases w
        · simp -dsimp only [Vm.G, List.lookup, Nat.reduceAdd, Nat.reduceBEq, Int.reduceBNe, Int.reduceBEq, Nat.reduceLeDiff, q150]
          refine kept_intro ⟨l.length - (i + 1), by omega, _, le_mk [(0, .ptr R.iv 0), (1, .v (.int .i64 year)), (2, .sl 4 (l.map dlAv)), (3, .v (.int .i64 p)), (4, .v (.int .i64 e)), (5, .v (.int .i64 x)), (14, .v (.bool qw)), (15, .v (.int .i64 (i + 1 : Nat)))] ?_, i + 1, qf, qw, by omega, g1, by omega, hsm.trans g2, by simpa using hp, rfl⟩
          simp only [List.forall_mem_cons, List.not_mem_nil, false_imp_iff, implies_true, and_true, hw]
          try simp -dsimp only [Vm.G, List.lookup, Nat.reduceAdd, Nat.reduceBEq, Int.reduceBNe, Int.reduceBEq, Nat.reduceLeDiff, q150, hw]
          repeat' first | exact Fg.refl _ | exact Fg.nil _ _ _ (by decide) | refine And.intro ?_ ?_
        · simp -dsimp only [Vm.G, List.lookup, Nat.reduceAdd, Nat.reduceBEq, Int.reduceBNe, Int.reduceBEq, Nat.reduceLeDiff, q150]
          refine kept_intro ⟨l.length - (i + 1), by omega, _, le_mk [(0, .ptr R.iv 0), (1, .v (.int .i64 year)), (2, .sl 4 (l.map dlAv)), (3, .v (.int .i64 p)), (4, .v (.int .i64 e)), (5, .v (.int .i64 x)), (14, .v (.bool true)), (15, .v (.int .i64 (i + 1 : Nat)))] ?_, i + 1, qf, true, by omega, g1, by omega, hsm.trans g2, by simpa using hp, rfl⟩
          simp only [List.forall_mem_cons, List.not_mem_nil, false_imp_iff, implies_true, and_true, hw]
          try simp -dsimp only [Vm.G, List.lookup, Nat.reduceAdd, Nat.reduceBEq, Int.reduceBNe, Int.reduceBEq, Nat.reduceLeDiff, q150, hw]
          repeat' first | exact Fg.refl _ | exact Fg.nil _ _ _ (by decide) | refine And.intro ?_ ?_
    · have hge : ¬ i < l.length := by have := of_decide_eq_false hcc; omega
      rw [List.drop_of_length_le (by omega)] at hp
      have hp : (g, w, (0 : Int)) = chargeG (mkR p e x) year l f false := by rw [← hp]; simp only [chargeG]
      rw [← hp] at hq
      simp -dsimp only [Vm.G, List.lookup, Nat.reduceAdd, Nat.reduceBEq, Int.reduceBNe, Int.reduceBEq, Nat.reduceLeDiff, q150]
      exact hq h' hR hsm
theorem w64_i64 {n : Int} (h : I64 n) : w64 n = n := wrap_i64 h.1 h.2
theorem mkR_pre {d : Dl} (h : d.ok) : mkR 1 0 0 d = ⟨d.orig, 0, 0⟩ := by
  unfold mkR
  rw [Int.one_mul, Int.zero_mul, w64_i64 h.2.1]
  rfl
def rPreNewSpec : Vm.Spec := fun args h Q => ∃ (R : RId) (f : Fun) (year : Int) (l : List Ln), I64 year ∧ l.length ≤ 1073741824 ∧ (∀ x ∈ l, x.ok) ∧ args = [.ptr R.iv 0, .v (.int .i64 year), .sl 4 (l.map lnAv)] ∧ isRef h R f ∧ f.n ≤ 134217728 ∧
  ∀ h', isRef h' R (preNew f year l).1 → Same h h' (rFoot R) → Q (.tup [.v (.int .i64 (preNew f year l).2.1), .v (.bool (preNew f year l).2.2.1), .v (.int .i64 (preNew f year l).2.2.2)]) h'
theorem docsPut_no {f : Fun} {d : Dc} {l : List Dl} (h : (docsPut f d l).2.2 ≠ 0) : (docsPut f d l).2.1 = 0 := by
  revert h
  unfold docsPut
  split
  · intro _; rfl
  · split
    · intro _; rfl
    · intro h; exact absurd rfl h
set_option maxHeartbeats 1000000 in
theorem does_rPreNew : Does Tryz.prog 71 rPreNewSpec := by
  refine does_of_awp (good_cons does_rFirst (good_cons does_rLines (good_cons does_rChargeL (good_cons does_rDocsPut good_nil)))) Tryz.func71 rfl (by decide +kernel) (by decide +kernel) ?_
  rintro args h Q ⟨R, f, year, l, hy, hl, hok, rfl, hR, hfn, hq⟩
  refine ⟨by simp [Tryz.f71], ?_⟩
  rw [awpFunc_some (by rfl)]
  unfold preNew at hq
  simp -dsimp only [Vm.G, List.lookup, Nat.reduceAdd, Nat.reduceBEq, Int.reduceBNe, Int.reduceBEq, Nat.reduceLeDiff, q71]
  refine call_one (S := rFirstSpec) rfl _ GaL.rfl ⟨R, f, year, l, by omega, rfl, hR, by omega, ?_⟩
  have hfo : firstOf f year l = if checkY f year ≠ 0 then checkY f year else preCheck l := rfl
  generalize firstOf f year l = e at hfo ⊢
  simp -dsimp only [Vm.G, List.lookup, Nat.reduceAdd, Nat.reduceBEq, Int.reduceBNe, Int.reduceBEq, Nat.reduceLeDiff, q71]
  by_cases d1 : checkY f year ≠ 0
  · simp only [if_pos d1] at hq hfo
    have c1 : (e != 0) = true := by rw [hfo]; simpa using d1
    rw [← hfo] at hq
    simp -dsimp only [Vm.G, List.lookup, Nat.reduceAdd, Nat.reduceBEq, Int.reduceBNe, Int.reduceBEq, Nat.reduceLeDiff, q71, c1]
    exact hq h hR (.refl _ _)
  · simp only [if_neg d1] at hq hfo
    by_cases d2 : preCheck l ≠ 0
    · simp only [if_pos d2] at hq
      have c1 : (e != 0) = true := by rw [hfo]; simpa using d2
      rw [← hfo] at hq
      simp -dsimp only [Vm.G, List.lookup, Nat.reduceAdd, Nat.reduceBEq, Int.reduceBNe, Int.reduceBEq, Nat.reduceLeDiff, q71, c1]
      exact hq h hR (.refl _ _)
    · simp only [if_neg d2] at hq
      have c1 : (e != 0) = false := by rw [hfo]; simpa using d2
      have hl6 := preCheck_len d2
      have hol := ownL_length l
      have hook := ownL_ok hok
      have hG : chargeL year (ownL l) f false = chargeG (mkR 1 0 0) year (ownL l) f false := by
        rw [chargeL_G]
        exact chargeG_congr year _ _ _ fun x hx => (mkR_pre (hook x hx)).symm
      rw [hG] at hq
      have hcn := chargeG_n (mkR 1 0 0) year (ownL l) f false
      clear hG
      simp -dsimp only [Vm.G, List.lookup, Nat.reduceAdd, Nat.reduceBEq, Int.reduceBNe, Int.reduceBEq, Nat.reduceLeDiff, q71, c1]
      refine call_one (S := linesSpec) rfl _ GaL.rfl ⟨l, hl, rfl, ?_⟩
      simp -dsimp only [Vm.G, List.lookup, Nat.reduceAdd, Nat.reduceBEq, Int.reduceBNe, Int.reduceBEq, Nat.reduceLeDiff, q71]
      refine call_one (S := rChargeLSpec) rfl _ GaL.rfl ⟨R, f, year, ownL l, 1, 0, 0, by omega, rfl, hR, by omega, fun h1 g1 g2 => ?_⟩
      generalize chargeG (mkR 1 0 0) year (ownL l) f false = q at hq g1 hcn ⊢
      rcases q with ⟨qf, qw, qe⟩
      simp only at hq g1 hcn ⊢
      simp -dsimp only [Vm.G, List.lookup, Nat.reduceAdd, Nat.reduceBEq, Int.reduceBNe, Int.reduceBEq, Nat.reduceLeDiff, q71]
      have h3 := Bool.eq_false_or_eq_true (qe != 0)
      rcases h3 with c3 | c3
      · have d3 : qe ≠ 0 := by simpa using c3
        simp only [if_pos d3] at hq
        simp -dsimp only [Vm.G, List.lookup, Nat.reduceAdd, Nat.reduceBEq, Int.reduceBNe, Int.reduceBEq, Nat.reduceLeDiff, q71, c3]
        exact hq h1 g1 g2
      · have d3 : ¬ qe ≠ 0 := by simpa using c3
        simp only [if_neg d3] at hq
        have z0 : I64 0 := by unfold I64; omega
        have z1 : I64 1 := by unfold I64; omega
        simp -dsimp only [Vm.G, List.lookup, Nat.reduceAdd, Nat.reduceBEq, Int.reduceBNe, Int.reduceBEq, Nat.reduceLeDiff, q71, c3]
        refine call_one (S := rDocsPutSpec) rfl _ GaL.rfl ⟨R, qf, ⟨0, 1, year, 0, 0⟩, ownL l, ⟨z0, z1, hy, z0, z0⟩, hook, rfl, g1, by omega, fun h2 g3 g4 => ?_⟩
        have hno := docsPut_no (f := qf) (d := ⟨0, 1, year, 0, 0⟩) (l := ownL l)
        generalize docsPut qf ⟨0, 1, year, 0, 0⟩ (ownL l) = r at hq g3 hno ⊢
        rcases r with ⟨rf, ri, re⟩
        simp only at hq g3 hno ⊢
        have hq' := hq h2 g3 (g2.trans g4)
        simp -dsimp only [Vm.G, List.lookup, Nat.reduceAdd, Nat.reduceBEq, Int.reduceBNe, Int.reduceBEq, Nat.reduceLeDiff, q71]
        have h4 := Bool.eq_false_or_eq_true (re != 0)
        rcases h4 with c4 | c4
        · have d4 : re ≠ 0 := by simpa using c4
          have e4 : (re == 0) = false := by simpa using d4
          rw [hno d4, e4, Bool.and_false] at hq'
          simp -dsimp only [Vm.G, List.lookup, Nat.reduceAdd, Nat.reduceBEq, Int.reduceBNe, Int.reduceBEq, Nat.reduceLeDiff, q71, c4]
          exact hq'
        · have d4 : re = 0 := by simpa using c4
          subst d4
          rw [beq_self_eq_true, Bool.and_true] at hq'
          simp -dsimp only [Vm.G, List.lookup, Nat.reduceAdd, Nat.reduceBEq, Int.reduceBNe, Int.reduceBEq, Nat.reduceLeDiff, q71, c4]
          exact hq'
end Go.Proofs.Lx
/- The law SeqnRises: walked. -/
set_option linter.unusedSimpArgs false
set_option linter.unusedVariables false
namespace Go.Proofs.Lx
open Go.Vm
attribute [local irreducible] awpArr awpBin awpMake awpAppend awpCvX awpStrOf awpBinX awpSlice awpBS awpStore awpAlloc awpCopy awpIndex awpDraw awpIdxX awpFa awpField awpLookup awpUpdate awpDelete awpClear awpRange awpNext awpEntry awpBuild
end Go.Proofs.Lx
/- The law SeqnGives. -/
set_option linter.unusedSimpArgs false
set_option linter.unusedVariables false
namespace Go.Proofs.Lx
open Go.Vm
attribute [local irreducible] awpArr awpBin awpMake awpAppend awpCvX awpStrOf awpBinX awpSlice awpBS awpStore awpAlloc awpCopy awpIndex awpDraw awpIdxX awpFa awpField awpLookup awpUpdate awpDelete awpClear awpRange awpNext awpEntry awpBuild awpClearS awpIdxL
end Go.Proofs.Lx
/- The law YearsLive. -/
set_option linter.unusedSimpArgs false
set_option linter.unusedVariables false
namespace Go.Proofs.Lx
open Go.Vm
attribute [local irreducible] awpArr awpBin awpMake awpAppend awpCvX awpStrOf awpBinX awpSlice awpBS awpStore awpAlloc awpCopy awpIndex awpDraw awpIdxX awpFa awpField awpLookup awpUpdate awpDelete awpClear awpRange awpNext awpEntry awpBuild awpClearS awpIdxL awpTree appB awpIdxO eltA treeA
theorem both_rnew {h : Heap} {V : VId} (hV : isView h V noF) : Both (rNewH h) V (rNewId h) noF := by
  refine ⟨by unfold rNewH; exact hV.more _, isRef_new h, fun i hi hm => ?_⟩
  obtain ⟨chg, clk, mem, clk2, h1, h2, h3, -⟩ := hV
  have a1 := get_lt h1
  have a2 := get_lt h2
  have a3 := get_lt h3
  simp only [rNewId, List.mem_cons, List.not_mem_nil, or_false] at hi hm
  omega
def rNewASpec : Vm.Spec := fun args h Q => ∃ V : VId, args = [.sl 2 []] ∧ isView h V noF ∧ ∀ (R : RId) (h' : Heap), Both h' V R noF → Q (.ptr R.iv 0) h'
theorem does_rNewA : Does Tryz.prog 21 rNewASpec := does_rNew.imp (by
  rintro args h Q ⟨V, rfl, hV, hq⟩
  exact ⟨rfl, hq (rNewId h) (rNewH h) (both_rnew hV)⟩)
theorem bool_neq {a b : Bool} {KV : Value → Prop} : awpBin Tryz.prog .neq 4 (.v (.bool a)) (.v (.bool b)) KV = KV (.bool (!(a == b))) := by simp [awpBin, Tryz.underlying4]
end Go.Proofs.Lx
/- The law PreOpen. -/
set_option linter.unusedSimpArgs false
set_option linter.unusedVariables false
namespace Go.Proofs.Lx
open Go.Vm
attribute [local irreducible] awpArr awpBin awpMake awpAppend awpCvX awpStrOf awpBinX awpSlice awpBS awpStore awpAlloc awpCopy awpIndex awpDraw awpIdxX awpFa awpField awpLookup awpUpdate awpDelete awpClear awpRange awpNext awpEntry awpBuild awpClearS awpIdxL awpTree appB awpIdxO eltA treeA
def yr20 (n : Nd) : Nd := { n with year := 2020 }
def putN (f : Fun) (n : Nd) : Fun := upd f (ndK (yr20 n)) (some (ndV (yr20 n)))
def begunF (l : List Nd) : Fun := l.foldl putN (openOf noF 2020).1
theorem begunF_n (l : List Nd) : (begunF l).n ≤ l.length + 1 := by
  have : ∀ (l : List Nd) (f : Fun), (l.foldl putN f).n = f.n + l.length := by
    intro l
    induction l with
    | nil => intro f; rfl
    | cons x r ih =>
      intro f
      rw [List.foldl_cons, ih]
      show f.n + 1 + r.length = _
      simp only [List.length_cons]; omega
  unfold begunF
  rw [this]
  have := open_n noF 2020
  have h0 : noF.n = 0 := rfl
  omega
def begunSpec : Vm.Spec := fun args h Q => ∃ l : List Nd, l.length ≤ 1048576 ∧ (∀ n ∈ l, n.ok) ∧ args = [.sl 12 (l.map ndAv)] ∧ ∀ (V : VId) (R : RId) (h' : Heap), Both h' V R (begunF l) → Q (.tup [.ptr V.iv 0, .ptr R.iv 0]) h'
set_option maxRecDepth 20000 in
set_option maxHeartbeats 1000000 in
theorem does_begun : Does Tryz.prog 70 begunSpec := by
  refine does_of_awp (good_cons does_vnewA (good_cons does_rNewA (good_cons does_yOpen (good_cons does_rOpen (good_cons does_tput (good_cons does_rtPut good_nil)))))) Tryz.func70 rfl (by decide +kernel) (by decide +kernel) ?_
  rintro args h Q ⟨l, hl, hok, rfl, hq⟩
  refine ⟨by simp [Tryz.f70], ?_⟩
  rw [awpFunc_some (by rfl)]
  simp -dsimp only [Vm.G, List.lookup, Nat.reduceAdd, Nat.reduceBEq, Int.reduceBNe, Int.reduceBEq, Nat.reduceLeDiff, q70]
  refine call_one (S := vnewASpec) rfl _ GaL.rfl ⟨rfl, fun V h00 hV00 => ?_⟩
  simp -dsimp only [Vm.G, List.lookup, Nat.reduceAdd, Nat.reduceBEq, Int.reduceBNe, Int.reduceBEq, Nat.reduceLeDiff, q70]
  refine call_one (S := rNewASpec) rfl _ (.cons (.nil 2) .nil) ⟨V, rfl, hV00, fun R h0 hB0 => ?_⟩
  clear hV00
  simp -dsimp only [Vm.G, List.lookup, Nat.reduceAdd, Nat.reduceBEq, Int.reduceBNe, Int.reduceBEq, Nat.reduceLeDiff, q70]
  refine call_one (S := yOpenSpec) rfl _ GaL.rfl ⟨V, noF, 2020, rfl, hB0.1, fun h1 g1 g2 => ?_⟩
  have hR1 := hB0.view g1 g2
  simp -dsimp only [Vm.G, List.lookup, Nat.reduceAdd, Nat.reduceBEq, Int.reduceBNe, Int.reduceBEq, Nat.reduceLeDiff, q70]
  refine call_one (S := rOpenSpec) rfl _ GaL.rfl ⟨R, noF, 2020, rfl, hR1, by decide, fun h2 g3 g4 => ?_⟩
  have hB1 := hB0.ref g1 g3 g4
  clear hB0 g1 g2 g3 g4 hR1
  simp -dsimp only [Vm.G, List.lookup, Nat.reduceAdd, Nat.reduceBEq, Int.reduceBNe, Int.reduceBEq, Nat.reduceLeDiff, q70]
  refine awp_loop (fun m s h' => ∃ i : Nat, i + m = l.length ∧ Both h' V R (begunF (l.take i)) ∧ s = mk [(4, .ptr V.iv 0), (5, .ptr R.iv 0), (14, .sl 12 (l.map ndAv)), (15, .v (.int .i64 l.length)), (16, .v (.int .i64 (i : Nat)))])
    l.length _ (le_mk _ ?_) ⟨0, by omega, hB1, rfl⟩ ?_
  · simp only [List.forall_mem_cons, List.not_mem_nil, false_imp_iff, implies_true, and_true]
    try simp -dsimp only [Vm.G, List.lookup, Nat.reduceAdd, Nat.reduceBEq, Int.reduceBNe, Int.reduceBEq, Nat.reduceLeDiff, q70]
    repeat' first | exact Fg.refl _ | exact Fg.nil _ _ _ (by decide) | refine And.intro ?_ ?_
  · clear hB1
    rintro m s h' ⟨i, hi, hB, rfl⟩
    simp -dsimp only [Vm.G, List.lookup, Nat.reduceAdd, Nat.reduceBEq, Int.reduceBNe, Int.reduceBEq, Nat.reduceLeDiff, q70]
    refine cond_intro (fun hcc => ?_) (fun hcc => ?_)
    · have hlt : i < l.length := by have := of_decide_eq_true hcc; omega
      have hw : IntKind.i64.wrap ((i : Int) + 1) = ((i + 1 : Nat) : Int) := by rw [wrap_i64 (by omega) (by omega)]; simp
      have hfn := begunF_n (l.take i)
      have htl : (l.take i).length ≤ i := by rw [List.length_take]; omega
      have est : begunF (l.take (i + 1)) = putN (begunF (l.take i)) l[i] := by
        unfold begunF
        rw [List.take_succ_eq_append_getElem hlt, List.foldl_append]; rfl
      have ho := hok l[i] (List.getElem_mem hlt)
      simp -dsimp only [Vm.G, List.lookup, Nat.reduceAdd, Nat.reduceBEq, Int.reduceBNe, Int.reduceBEq, Nat.reduceLeDiff, q70]
      refine idx_map ndAv l i hlt ?_
      generalize l[i] = n at est ho
      have hok2 : (yr20 n).ok := ⟨by show I64 2020; unfold I64; omega, ho.2⟩
      simp only [ndAv, ndCells]
      simp -dsimp only [Vm.G, List.lookup, Nat.reduceAdd, Nat.reduceBEq, Int.reduceBNe, Int.reduceBEq, Nat.reduceLeDiff, q70, AV.cells]
      refine call_one (S := tputSpec) rfl _ GaL.rfl ⟨V, begunF (l.take i), yr20 n, rfl, hok2, hB.1, fun h2 g1 g2 => ?_⟩
      simp -dsimp only [Vm.G, List.lookup, Nat.reduceAdd, Nat.reduceBEq, Int.reduceBNe, Int.reduceBEq, Nat.reduceLeDiff, q70]
      refine call_one (S := rtPutSpec) rfl _ GaL.rfl ⟨R, begunF (l.take i), yr20 n, rfl, hok2, hB.view g1 g2, by omega, fun h3 g3 g4 => ?_⟩
      have hB2 := hB.ref g1 g3 g4
      have hB2 : Both h3 V R (begunF (l.take (i + 1))) := by rw [est]; exact hB2
      simp -dsimp only [Vm.G, List.lookup, Nat.reduceAdd, Nat.reduceBEq, Int.reduceBNe, Int.reduceBEq, Nat.reduceLeDiff, q70]
      refine kept_intro ⟨l.length - (i + 1), by omega, _, le_mk [(4, .ptr V.iv 0), (5, .ptr R.iv 0), (14, .sl 12 (l.map ndAv)), (15, .v (.int .i64 l.length)), (16, .v (.int .i64 (i + 1 : Nat)))] ?_, i + 1, by omega, hB2, rfl⟩
      simp only [List.forall_mem_cons, List.not_mem_nil, false_imp_iff, implies_true, and_true, hw]
      try simp -dsimp only [Vm.G, List.lookup, Nat.reduceAdd, Nat.reduceBEq, Int.reduceBNe, Int.reduceBEq, Nat.reduceLeDiff, q70, hw]
      repeat' first | exact Fg.refl _ | exact Fg.nil _ _ _ (by decide) | refine And.intro ?_ ?_
    · have hge : ¬ i < l.length := by have := of_decide_eq_false hcc; omega
      rw [List.take_of_length_le (by omega)] at hB
      simp -dsimp only [Vm.G, List.lookup, Nat.reduceAdd, Nat.reduceBEq, Int.reduceBNe, Int.reduceBEq, Nat.reduceLeDiff, q70]
      exact hq V R h' hB
def aw1 : Nd := { Nd.zero with id := 1, limit := 9 }
def aw2 : Ln := ⟨0, 0, 1, 10⟩
theorem aw_pre : (preNew (begunF [aw1]) 2020 [aw2]).2 = (1, true, 0) := by decide +kernel
theorem aw_nd : (nodeAt (preNew (begunF [aw1]) 2020 [aw2]).1 2020 1).map (·.pre) = some 10 := by decide +kernel
theorem aw1_ok : aw1.ok := by simp [Nd.ok, aw1, Nd.zero, I64]
theorem aw2_ok : aw2.ok := by simp [Ln.ok, aw2, I64]
set_option maxRecDepth 20000 in
theorem does_law31awake : Does Tryz.prog 69 trueSpec := by
  refine does_of_awp (good_cons does_begun (good_cons does_preNew (good_cons does_tget (good_cons does_preCheck good_nil)))) Tryz.func69 rfl (by decide +kernel) (by decide +kernel) ?_
  rintro args h Q ⟨rfl, hq⟩
  refine ⟨by simp [Tryz.f69], ?_⟩
  rw [awpFunc_some (by rfl)]
  simp -dsimp only [Vm.G, List.lookup, Nat.reduceAdd, Nat.reduceBEq, Int.reduceBNe, Int.reduceBEq, Nat.reduceLeDiff, q69]
  refine bs_intro zr93 (by decide) (by decide) rfl rfl (by simp [solid, AV.cells]) ?_
  simp -dsimp only [Vm.G, List.lookup, Nat.reduceAdd, Nat.reduceBEq, Int.reduceBNe, Int.reduceBEq, Nat.reduceLeDiff, q69]
  refine call_one (S := begunSpec) rfl _ GaL.rfl ⟨[aw1], by simp, by simpa using aw1_ok, rfl, fun V R h1 hB => ?_⟩
  simp -dsimp only [Vm.G, List.lookup, Nat.reduceAdd, Nat.reduceBEq, Int.reduceBNe, Int.reduceBEq, Nat.reduceLeDiff, q69]
  refine nil_pointer Tryz.underlying24 ?_
  simp -dsimp only [Vm.G, List.lookup, Nat.reduceAdd, Nat.reduceBEq, Int.reduceBNe, Int.reduceBEq, Nat.reduceLeDiff, q69]
  refine bs_intro zr45 (by decide) (by decide) rfl rfl (by simp [solid, AV.cells]) ?_
  simp -dsimp only [Vm.G, List.lookup, Nat.reduceAdd, Nat.reduceBEq, Int.reduceBNe, Int.reduceBEq, Nat.reduceLeDiff, q69]
  refine call_one (S := preNewSpec) rfl _ GaL.rfl ⟨V, begunF [aw1], 2020, [aw2], by unfold I64; omega, by simp, by simpa using aw2_ok, rfl, hB.1, fun h2 g1 g2 => ?_⟩
  have e1 := aw_pre
  have e2 := aw_nd
  generalize preNew (begunF [aw1]) 2020 [aw2] = q at g1 e1 e2 ⊢
  obtain ⟨qf, qi, qw, qe⟩ := q
  simp only [Prod.mk.injEq] at e1
  obtain ⟨rfl, rfl, rfl⟩ := e1
  simp only at e2 g1 ⊢
  simp -dsimp only [Vm.G, List.lookup, Nat.reduceAdd, Nat.reduceBEq, Int.reduceBNe, Int.reduceBEq, Nat.reduceLeDiff, q69]
  refine call_one (S := tgetSpec) rfl _ GaL.rfl ⟨V, qf, 2020, 1, rfl, g1, fun n hn => ?_, fun hn => by rw [hn] at e2; cases e2⟩
  rw [hn] at e2
  have e3 : n.pre = 10 := by simpa using e2
  simp only [ndCells, e3]
  simp -dsimp only [Vm.G, List.lookup, Nat.reduceAdd, Nat.reduceBEq, Int.reduceBNe, Int.reduceBEq, Nat.reduceLeDiff, q69]
  refine call_one (S := preCheckSpec) rfl _ (.cons (.nil 4) GaL.rfl) ⟨[], by simp, rfl, ?_⟩
  have e4 : preCheck [] = 1 := rfl
  rw [e4]
  simp -dsimp only [Vm.G, List.lookup, Nat.reduceAdd, Nat.reduceBEq, Int.reduceBNe, Int.reduceBEq, Nat.reduceLeDiff, q69]
  exact hq _
end Go.Proofs.Lx
/- Two views beside, committed and forgotten: the law PreNew. -/
set_option linter.unusedSimpArgs false
set_option linter.unusedVariables false
namespace Go.Proofs.Lx
open Go.Vm
attribute [local irreducible] awpArr awpBin awpMake awpAppend awpCvX awpStrOf awpBinX awpSlice awpBS awpStore awpAlloc awpCopy awpIndex awpDraw awpIdxX awpFa awpField awpLookup awpUpdate awpDelete awpClear awpRange awpNext awpEntry awpBuild awpClearS awpIdxL awpTree appB awpIdxO eltA treeA
def rComId (R : RId) (h : Heap) : RId := ⟨R.iv, h.length, R.inn, h.length + 1⟩
def rAbId (R : RId) (h : Heap) : RId := ⟨R.iv, R.iw, h.length, h.length + 1⟩
theorem set_two {h : Heap} {i : Nat} (hi : i < h.length) (x y z a : AObj) : ((h ++ [x]).set i y ++ [a]).set i z = h.set i z ++ [x, a] := by
  rw [List.set_append_left _ _ hi, List.append_assoc, List.set_append_left _ _ (by rw [List.length_set]; exact hi), List.set_set]
  rfl
theorem get_two {h : Heap} {i j : Nat} {x a z o : AObj} (hj : h[j]? = some o) (hne : j ≠ i) : (h.set i z ++ [x, a])[j]? = some o := by
  have hl : j < (h.set i z).length := by rw [List.length_set]; exact get_lt hj
  rw [List.getElem?_append_left hl, List.getElem?_set_ne (Ne.symm hne)]; exact hj
theorem get_two0 (h : Heap) (i : Nat) (z x a : AObj) : (h.set i z ++ [x, a])[h.length]? = some x := by
  rw [List.getElem?_append_right (by simp)]; simp
theorem get_two1 (h : Heap) (i : Nat) (z x a : AObj) : (h.set i z ++ [x, a])[h.length + 1]? = some a := by
  rw [List.getElem?_append_right (by simp)]; simp
theorem get_twoI {h : Heap} {i : Nat} (hi : i < h.length) (z x a : AObj) : (h.set i z ++ [x, a])[i]? = some z := by
  rw [List.getElem?_append_left (by rw [List.length_set]; exact hi), List.getElem?_set_self hi]
theorem same_two {h : Heap} {i : Nat} (z x a : AObj) : Same h (h.set i z ++ [x, a]) [i] :=
  ⟨by simp, fun j hj hm => by rw [List.getElem?_append_left (by rw [List.length_set]; exact hj), List.getElem?_set_ne (by simp at hm; omega)]⟩
set_option maxHeartbeats 1000000 in
theorem does_rCom0 : Does Tryz.prog 154 (fun args h Q => ∃ (R : RId) (ln : List KV), args = [.ptr R.iv 0] ∧ h[R.iv]? = some (.cells [.ptr R.iw 0, .ptr R.inn 0, .ptr R.it 0]) ∧ h[R.inn]? = some (tabObj ln) ∧
    Q (.tup []) (h.set R.iv (.cells [.ptr h.length 0, .ptr R.inn 0, .ptr (h.length + 1) 0]) ++ [tabObj ln, .cells [.v (.slice none 0 0)]])) := by
  refine does_of_awp good_nil Tryz.func154 rfl (by decide +kernel) (by decide +kernel) ?_
  rintro args h Q ⟨R, ln, rfl, h1, h2, hq⟩
  refine ⟨by simp [Tryz.f154], ?_⟩
  rw [awpFunc_some (by rfl)]
  have hlt := get_lt h1
  have k1 : ∀ r, (h ++ r)[R.iv]? = some (.cells [.ptr R.iw 0, .ptr R.inn 0, .ptr R.it 0]) := fun r => heap_get r h1
  unfold tabObj at h2 hq
  simp -dsimp only [Vm.G, List.lookup, Nat.reduceAdd, Nat.reduceBEq, Int.reduceBNe, Int.reduceBEq, Nat.reduceLeDiff, q154, h1, h2, k1]
  have k2 : ((h ++ [AObj.cells [.sl 2 (ln.map kvAv)]]).set R.iv (.cells [AV.ptr h.length 0, .ptr R.inn 0, .ptr R.it 0]))[R.iv]? = some (.cells [AV.ptr h.length 0, .ptr R.inn 0, .ptr R.it 0]) := List.getElem?_set_self (by simp; omega)
  have k3 : ∀ r, (((h ++ [AObj.cells [.sl 2 (ln.map kvAv)]]).set R.iv (.cells [AV.ptr h.length 0, .ptr R.inn 0, .ptr R.it 0])) ++ r)[R.iv]? = some (.cells [AV.ptr h.length 0, .ptr R.inn 0, .ptr R.it 0]) := fun r => heap_get r k2
  have k4 : ((h ++ [AObj.cells [.sl 2 (ln.map kvAv)]]).set R.iv (.cells [AV.ptr h.length 0, .ptr R.inn 0, .ptr R.it 0])).length = h.length + 1 := by simp
  have e1 : putCells [AV.ptr R.iw 0, .ptr R.inn 0, .ptr R.it 0] 0 [.ptr h.length 0] = [AV.ptr h.length 0, .ptr R.inn 0, .ptr R.it 0] := rfl
  try simp only [e1]
  simp -dsimp only [Vm.G, List.lookup, Nat.reduceAdd, Nat.reduceBEq, Int.reduceBNe, Int.reduceBEq, Nat.reduceLeDiff, q154, k2, k3, k4]
  have e2 : putCells [AV.ptr h.length 0, .ptr R.inn 0, .ptr R.it 0] 2 [.ptr (h.length + 1) 0] = [.ptr h.length 0, .ptr R.inn 0, .ptr (h.length + 1) 0] := rfl
  try simp only [e2]
  rw [set_two hlt]
  exact hq
set_option maxHeartbeats 1000000 in
theorem does_rAb0 : Does Tryz.prog 155 (fun args h Q => ∃ (R : RId) (ln : List KV), args = [.ptr R.iv 0] ∧ h[R.iv]? = some (.cells [.ptr R.iw 0, .ptr R.inn 0, .ptr R.it 0]) ∧ h[R.iw]? = some (tabObj ln) ∧
    Q (.tup []) (h.set R.iv (.cells [.ptr R.iw 0, .ptr h.length 0, .ptr (h.length + 1) 0]) ++ [tabObj ln, .cells [.v (.slice none 0 0)]])) := by
  refine does_of_awp good_nil Tryz.func155 rfl (by decide +kernel) (by decide +kernel) ?_
  rintro args h Q ⟨R, ln, rfl, h1, h2, hq⟩
  refine ⟨by simp [Tryz.f155], ?_⟩
  rw [awpFunc_some (by rfl)]
  have hlt := get_lt h1
  have k1 : ∀ r, (h ++ r)[R.iv]? = some (.cells [.ptr R.iw 0, .ptr R.inn 0, .ptr R.it 0]) := fun r => heap_get r h1
  unfold tabObj at h2 hq
  simp -dsimp only [Vm.G, List.lookup, Nat.reduceAdd, Nat.reduceBEq, Int.reduceBNe, Int.reduceBEq, Nat.reduceLeDiff, q155, h1, h2, k1]
  have k2 : ((h ++ [AObj.cells [.sl 2 (ln.map kvAv)]]).set R.iv (.cells [AV.ptr R.iw 0, .ptr h.length 0, .ptr R.it 0]))[R.iv]? = some (.cells [AV.ptr R.iw 0, .ptr h.length 0, .ptr R.it 0]) := List.getElem?_set_self (by simp; omega)
  have k3 : ∀ r, (((h ++ [AObj.cells [.sl 2 (ln.map kvAv)]]).set R.iv (.cells [AV.ptr R.iw 0, .ptr h.length 0, .ptr R.it 0])) ++ r)[R.iv]? = some (.cells [AV.ptr R.iw 0, .ptr h.length 0, .ptr R.it 0]) := fun r => heap_get r k2
  have k4 : ((h ++ [AObj.cells [.sl 2 (ln.map kvAv)]]).set R.iv (.cells [AV.ptr R.iw 0, .ptr h.length 0, .ptr R.it 0])).length = h.length + 1 := by simp
  have e1 : putCells [AV.ptr R.iw 0, .ptr R.inn 0, .ptr R.it 0] 1 [.ptr h.length 0] = [AV.ptr R.iw 0, .ptr h.length 0, .ptr R.it 0] := rfl
  try simp only [e1]
  simp -dsimp only [Vm.G, List.lookup, Nat.reduceAdd, Nat.reduceBEq, Int.reduceBNe, Int.reduceBEq, Nat.reduceLeDiff, q155, k2, k3, k4]
  have e2 : putCells [AV.ptr R.iw 0, .ptr h.length 0, .ptr R.it 0] 2 [.ptr (h.length + 1) 0] = [.ptr R.iw 0, .ptr h.length 0, .ptr (h.length + 1) 0] := rfl
  try simp only [e2]
  rw [set_two hlt]
  exact hq
theorem gaH_two {h : Heap} {i : Nat} (z x : AObj) : GaH (h.set i z ++ [x, .cells [.v (.slice none 0 0)]]) (h.set i z ++ [x, tabObj []]) :=
  GaH.append rfl fun i o' ho' => by
    match i, ho' with
    | 0, ho' => exact ⟨o', ho', .inl rfl⟩
    | 1, ho' => exact ⟨_, rfl, .inr ⟨_, _, rfl, (Option.some.inj ho').symm, .cons (.nil 2) .nil⟩⟩
    | i + 2, ho' => simp at ho'
def rComSpec : Vm.Spec := fun args h Q => ∃ (R : RId) (f : Fun), args = [.ptr R.iv 0] ∧ isRef h R f ∧ ∀ h', isRef h' (rComId R h) f → wasR h' (rComId R h) f → Same h h' [R.iv] → Q (.tup []) h'
theorem does_rCom : Does Tryz.prog 154 rComSpec := by
  refine (does_weakH does_rCom0).imp ?_
  rintro args h Q ⟨R, f, rfl, ⟨lw, ln, lt, h1, h2, h3, h4, ⟨n1, n2, n3, n4, n5⟩, h6, ⟨h7, h8⟩, h9⟩, hq⟩
  refine ⟨h, .refl h, R, ln, rfl, h1, h3, _, gaH_two _ _, ?_⟩
  have hi := get_lt h1
  have hn := get_lt h3
  refine hq _ ⟨ln, ln, [], get_twoI hi _ _ _, get_two0 _ _ _ _ _, get_two h3 n1.symm, get_two1 _ _ _ _ _, ⟨?_, ?_, ?_, ?_, ?_⟩, h6, ⟨h7, by simp⟩, h9⟩ ⟨ln, get_two0 _ _ _ _ _, h6, h7, h9⟩ (same_two _ _ _) <;> (simp only [rComId]; omega)
def rAbSpec : Vm.Spec := fun args h Q => ∃ (R : RId) (f g : Fun), args = [.ptr R.iv 0] ∧ isRef h R f ∧ wasR h R g ∧ ∀ h', isRef h' (rAbId R h) g → wasR h' (rAbId R h) g → Same h h' [R.iv] → Q (.tup []) h'
theorem does_rAb : Does Tryz.prog 155 rAbSpec := by
  refine (does_weakH does_rAb0).imp ?_
  rintro args h Q ⟨R, f, g, rfl, ⟨lw, ln, lt, h1, h2, h3, h4, ⟨n1, n2, n3, n4, n5⟩, h6, ⟨h7, h8⟩, h9⟩, ⟨lw2, w1, w2, w3, w4⟩, hq⟩
  rw [h2] at w1
  have hlw : lw = lw2 := by
    have := Option.some.inj w1
    unfold tabObj at this
    injection this with e
    injection e with e
    injection e with e1 e2
    exact List.map_inj_right (fun a b hab => by
      unfold kvAv at hab
      injection hab with h
      injection h with h1 h2
      injection h2 with h2 h3
      injection h1 with _ h1
      injection h2 with _ h2
      have i1 : a.1 = b.1 := by have := congrArg (List.map unB) h1; simpa [Function.comp_def, unB_encB] using this
      have i2 : a.2 = b.2 := by have := congrArg (List.map unB) h2; simpa [Function.comp_def, unB_encB] using this
      exact Prod.ext i1 i2) |>.1 e2
  subst hlw
  have nw : R.iw ≠ R.iv := fun e => by
    rw [e, h1] at h2
    have := Option.some.inj h2
    unfold tabObj at this
    injection this with e
    have := congrArg List.length e
    simp at this
  refine ⟨h, .refl h, R, lw, rfl, h1, h2, _, gaH_two _ _, ?_⟩
  have hi := get_lt h1
  have hn := get_lt h2
  refine hq _ ⟨lw, lw, [], get_twoI hi _ _ _, get_two h2 nw, get_two0 _ _ _ _ _, get_two1 _ _ _ _ _, ⟨?_, ?_, ?_, ?_, ?_⟩, w2, ⟨w3, by simp⟩, w4⟩ ⟨lw, get_two h2 nw, w2, w3, w4⟩ (same_two _ _ _) <;> (simp only [rAbId]; omega)
def samesSpec : Vm.Spec := fun args h Q => ∃ (V : VId) (R : RId) (f : Fun), args = [.ptr V.iv 0, .ptr R.iv 0] ∧ Both h V R f ∧ f.n ≤ 536870912 ∧ ∀ h', Both h' V R f → Same h h' [] → Q (.v (.bool true)) h'
theorem does_sames : Does Tryz.prog 54 samesSpec := by
  refine does_of_awp (good_cons does_scan (good_cons does_rScan (good_cons does_pairs good_nil))) Tryz.func54 rfl (by decide +kernel) (by decide +kernel) ?_
  rintro args h Q ⟨V, R, f, rfl, hB, hn, hq⟩
  refine ⟨by simp [Tryz.f54], ?_⟩
  rw [awpFunc_some (by rfl)]
  simp -dsimp only [Vm.G, List.lookup, Nat.reduceAdd, Nat.reduceBEq, Int.reduceBNe, Int.reduceBEq, Nat.reduceLeDiff, q54]
  refine call_one (S := scanSpec) rfl _ (.cons (.refl _) (.cons (.nil 1) .nil)) ⟨V, f, [], rfl, by simp, hB.1, hn, fun l h1 hsc hln hV1 hs1 => ?_⟩
  have hB1 := hB.quiet hV1 hs1
  simp -dsimp only [Vm.G, List.lookup, Nat.reduceAdd, Nat.reduceBEq, Int.reduceBNe, Int.reduceBEq, Nat.reduceLeDiff, q54]
  refine call_one (S := rScanSpec) rfl _ (.cons (.refl _) (.cons (.nil 1) .nil)) ⟨R, f, [], rfl, by simp, hB1.2.1, hn, fun l' hsc' hln' => ?_⟩
  obtain rfl := hsc.same hsc'
  simp -dsimp only [Vm.G, List.lookup, Nat.reduceAdd, Nat.reduceBEq, Int.reduceBNe, Int.reduceBEq, Nat.reduceLeDiff, q54]
  refine call_one (S := pairsSpec) rfl _ GaL.rfl ⟨l, l, by omega, rfl, ?_⟩
  simp -dsimp only [Vm.G, List.lookup, Nat.reduceAdd, Nat.reduceBEq, Int.reduceBNe, Int.reduceBEq, Nat.reduceLeDiff, q54, decide_true]
  exact hq _ hB1 hs1
theorem both_turn {h h1 h2 : Heap} {V : VId} {R R' : RId} {f k : Fun} (hB : Both h V R f) (hV : isView h1 V k) (hs : Same h h1 [V.ic, V.im]) (hR : isRef h2 R' k) (hs2 : Same h1 h2 [R.iv]) (hm : memV h1 V k) (hw : wasR h2 R' k)
    (hid : R' = rComId R h1 ∨ R' = rAbId R h1) : BothW h2 V R' k k := by
  obtain ⟨hB1, hB2, hB3⟩ := hB
  have hd : ∀ i ∈ [V.iv, V.ic, V.im], i ∉ [R.iv] := fun i hi hm => hB3 i hi (by simp at hm ⊢; exact .inl hm)
  have hlt : ∀ i ∈ [V.iv, V.ic, V.im], i < h1.length := fun i hi => by
    obtain ⟨chg, clk, mem, clk2, h1, h2, h3, h4⟩ := hV
    simp only [List.mem_cons, List.not_mem_nil, or_false] at hi
    rcases hi with rfl | rfl | rfl
    · exact get_lt h1
    · exact get_lt h2
    · exact get_lt h3
  refine ⟨⟨hV.same hs2 hd, hR, fun i hi hmem => ?_⟩, hm.same hs2 (hd _ (by simp)), hw⟩
  have h3 := hB3 i hi
  have h4 := hlt i hi
  simp only [List.mem_cons, List.not_mem_nil, or_false, not_or] at h3 hmem
  rcases hid with rfl | rfl
  · simp only [rComId] at hmem
    omega
  · simp only [rAbId] at hmem
    omega
def turnF (e : Int) (f g : Fun) : Fun := if e = 0 then f else g
def endSpec : Vm.Spec := fun args h Q => ∃ (V : VId) (R : RId) (f g : Fun) (e : Int), args = [.ptr V.iv 0, .ptr R.iv 0, .v (.int .i64 e)] ∧ BothW h V R f g ∧ f.n ≤ 536870912 ∧ g.n ≤ 536870912 ∧
  ∀ (R' : RId) h', R'.iv = R.iv → BothW h' V R' (turnF e f g) (turnF e f g) → Q (.v (.bool true)) h'
set_option maxHeartbeats 1000000 in
theorem does_end31 : Does Tryz.prog 74 endSpec := by
  refine does_of_awp (good_cons does_commit (good_cons does_rCom (good_cons does_abort (good_cons does_rAb (good_cons does_sames good_nil))))) Tryz.func74 rfl (by decide +kernel) (by decide +kernel) ?_
  rintro args h Q ⟨V, R, f, g, e, rfl, hB, hfn, hgn, hq⟩
  refine ⟨by simp [Tryz.f74], ?_⟩
  rw [awpFunc_some (by rfl)]
  unfold turnF at hq
  simp -dsimp only [Vm.G, List.lookup, Nat.reduceAdd, Nat.reduceBEq, Int.reduceBNe, Int.reduceBEq, Nat.reduceLeDiff, q74]
  have h0 := Bool.eq_false_or_eq_true (e == 0)
  rcases h0 with c | c
  · rw [if_pos (by simpa using c)] at hq
    simp -dsimp only [Vm.G, List.lookup, Nat.reduceAdd, Nat.reduceBEq, Int.reduceBNe, Int.reduceBEq, Nat.reduceLeDiff, q74, c]
    refine call_one (S := commitSpec) rfl _ GaL.rfl ⟨V, f, rfl, hB.1.1, hfn, fun h1 g1 g2 g3 => ?_⟩
    have hR1 : isRef h1 R f := hB.1.2.1.same g3 fun i hi hm => by
      simp only [List.mem_cons, List.not_mem_nil, or_false] at hm
      rcases hm with rfl | rfl
      · exact hB.1.2.2 V.ic (by simp) hi
      · exact hB.1.2.2 V.im (by simp) hi
    simp -dsimp only [Vm.G, List.lookup, Nat.reduceAdd, Nat.reduceBEq, Int.reduceBNe, Int.reduceBEq, Nat.reduceLeDiff, q74]
    refine call_one (S := rComSpec) rfl _ GaL.rfl ⟨R, f, rfl, hR1, fun h2 k1 k2 k3 => ?_⟩
    have hB2 := both_turn hB.1 g1 g3 k1 k3 g2 k2 (.inl rfl)
    simp -dsimp only [Vm.G, List.lookup, Nat.reduceAdd, Nat.reduceBEq, Int.reduceBNe, Int.reduceBEq, Nat.reduceLeDiff, q74]
    refine call_one (S := samesSpec) rfl _ GaL.rfl ⟨V, rComId R h1, f, rfl, hB2.1, hfn, fun h3 hB3 hs3 => ?_⟩
    simp -dsimp only [Vm.G, List.lookup, Nat.reduceAdd, Nat.reduceBEq, Int.reduceBNe, Int.reduceBEq, Nat.reduceLeDiff, q74]
    exact hq (rComId R h1) h3 rfl (Both.quietB hB2 hB3 hs3)
  · rw [if_neg (by simpa using c)] at hq
    simp -dsimp only [Vm.G, List.lookup, Nat.reduceAdd, Nat.reduceBEq, Int.reduceBNe, Int.reduceBEq, Nat.reduceLeDiff, q74, c]
    refine call_one (S := abortSpec) rfl _ GaL.rfl ⟨V, f, g, rfl, hB.1.1, hB.2.1, fun h1 g1 g2 g3 => ?_⟩
    have hd : ∀ i ∈ [R.iv, R.iw, R.inn, R.it], i ∉ [V.ic] := fun i hi hm => by
      simp only [List.mem_cons, List.not_mem_nil, or_false] at hm
      subst hm
      exact hB.1.2.2 V.ic (by simp) hi
    have hR1 : isRef h1 R f := hB.1.2.1.same g3 hd
    have hW1 : wasR h1 R g := hB.2.2.same g3 (hd _ (by simp))
    have g3' : Same h h1 [V.ic, V.im] := ⟨g3.1, fun i hi hm => g3.2 i hi (by simp at hm ⊢; exact hm.1)⟩
    simp -dsimp only [Vm.G, List.lookup, Nat.reduceAdd, Nat.reduceBEq, Int.reduceBNe, Int.reduceBEq, Nat.reduceLeDiff, q74]
    refine call_one (S := rAbSpec) rfl _ GaL.rfl ⟨R, f, g, rfl, hR1, hW1, fun h2 k1 k2 k3 => ?_⟩
    have hB2 := both_turn hB.1 g1 g3' k1 k3 g2 k2 (.inr rfl)
    simp -dsimp only [Vm.G, List.lookup, Nat.reduceAdd, Nat.reduceBEq, Int.reduceBNe, Int.reduceBEq, Nat.reduceLeDiff, q74]
    refine call_one (S := samesSpec) rfl _ GaL.rfl ⟨V, rAbId R h1, g, rfl, hB2.1, hgn, fun h3 hB3 hs3 => ?_⟩
    simp -dsimp only [Vm.G, List.lookup, Nat.reduceAdd, Nat.reduceBEq, Int.reduceBNe, Int.reduceBEq, Nat.reduceLeDiff, q74]
    exact hq (rAbId R h1) h3 rfl (Both.quietB hB2 hB3 hs3)
def vnewWSpec : Vm.Spec := fun args h Q => args = [nilP] ∧ ∀ (V : VId) (h' : Heap), isView h' V noF → memV h' V noF → Q (.ptr V.iv 0) h'
theorem does_vnewW : Does Tryz.prog 13 vnewWSpec := does_vnew.imp (by
  rintro args h Q ⟨rfl, hq⟩
  refine ⟨rfl, hq ⟨h.length + 2, h.length, h.length + 1⟩ _ (isView_new h) ⟨[], 0, ?_, fun k => rfl, by simp⟩⟩
  rw [List.getElem?_append_right (by simp)]; simp)
def rNewWSpec : Vm.Spec := fun args h Q => ∃ V : VId, args = [.sl 2 []] ∧ isView h V noF ∧ memV h V noF ∧ ∀ (R : RId) (h' : Heap), BothW h' V R noF noF → Q (.ptr R.iv 0) h'
theorem does_rNewW : Does Tryz.prog 21 rNewWSpec := does_rNew.imp (by
  rintro args h Q ⟨V, rfl, hV, ⟨mem, clk, m1, m2⟩, hq⟩
  refine ⟨rfl, hq (rNewId h) _ ⟨both_rnew hV, ⟨mem, clk, heap_get _ m1, m2⟩, ⟨[], ?_, TabIs.new, by simp, by simp⟩⟩⟩
  unfold rNewH rNewId
  rw [List.getElem?_append_right (by simp)]; simp)
def begunWSpec : Vm.Spec := fun args h Q => ∃ l : List Nd, l.length ≤ 1048576 ∧ (∀ n ∈ l, n.ok) ∧ args = [.sl 12 (l.map ndAv)] ∧ ∀ (V : VId) (R : RId) (h' : Heap), BothW h' V R (begunF l) noF → Q (.tup [.ptr V.iv 0, .ptr R.iv 0]) h'
set_option maxRecDepth 20000 in
set_option maxHeartbeats 1000000 in
theorem does_begunW31 : Does Tryz.prog 70 begunWSpec := by
  refine does_of_awp (good_cons does_vnewW (good_cons does_rNewW (good_cons does_yOpen (good_cons does_rOpen (good_cons does_tput (good_cons does_rtPut good_nil)))))) Tryz.func70 rfl (by decide +kernel) (by decide +kernel) ?_
  rintro args h Q ⟨l, hl, hok, rfl, hq⟩
  refine ⟨by simp [Tryz.f70], ?_⟩
  rw [awpFunc_some (by rfl)]
  simp -dsimp only [Vm.G, List.lookup, Nat.reduceAdd, Nat.reduceBEq, Int.reduceBNe, Int.reduceBEq, Nat.reduceLeDiff, q70]
  refine call_one (S := vnewWSpec) rfl _ GaL.rfl ⟨rfl, fun V h00 hV00 hm00 => ?_⟩
  simp -dsimp only [Vm.G, List.lookup, Nat.reduceAdd, Nat.reduceBEq, Int.reduceBNe, Int.reduceBEq, Nat.reduceLeDiff, q70]
  refine call_one (S := rNewWSpec) rfl _ (.cons (.nil 2) .nil) ⟨V, rfl, hV00, hm00, fun R h0 hB0 => ?_⟩
  clear hV00 hm00
  simp -dsimp only [Vm.G, List.lookup, Nat.reduceAdd, Nat.reduceBEq, Int.reduceBNe, Int.reduceBEq, Nat.reduceLeDiff, q70]
  refine call_one (S := yOpenSpec) rfl _ GaL.rfl ⟨V, noF, 2020, rfl, hB0.1.1, fun h1 g1 g2 => ?_⟩
  simp -dsimp only [Vm.G, List.lookup, Nat.reduceAdd, Nat.reduceBEq, Int.reduceBNe, Int.reduceBEq, Nat.reduceLeDiff, q70]
  refine call_one (S := rOpenSpec) rfl _ GaL.rfl ⟨R, noF, 2020, rfl, hB0.1.view g1 g2, by decide, fun h2 g3 g4 => ?_⟩
  have hB1 := hB0.step g1 g2 g3 g4
  clear hB0 g1 g2 g3 g4
  simp -dsimp only [Vm.G, List.lookup, Nat.reduceAdd, Nat.reduceBEq, Int.reduceBNe, Int.reduceBEq, Nat.reduceLeDiff, q70]
  refine awp_loop (fun m s h' => ∃ i : Nat, i + m = l.length ∧ BothW h' V R (begunF (l.take i)) noF ∧ s = mk [(4, .ptr V.iv 0), (5, .ptr R.iv 0), (14, .sl 12 (l.map ndAv)), (15, .v (.int .i64 l.length)), (16, .v (.int .i64 (i : Nat)))])
    l.length _ (le_mk _ ?_) ⟨0, by omega, hB1, rfl⟩ ?_
  · simp only [List.forall_mem_cons, List.not_mem_nil, false_imp_iff, implies_true, and_true]
    try simp -dsimp only [Vm.G, List.lookup, Nat.reduceAdd, Nat.reduceBEq, Int.reduceBNe, Int.reduceBEq, Nat.reduceLeDiff, q70]
    repeat' first | exact Fg.refl _ | exact Fg.nil _ _ _ (by decide) | refine And.intro ?_ ?_
  · clear hB1
    rintro m s h' ⟨i, hi, hB, rfl⟩
    simp -dsimp only [Vm.G, List.lookup, Nat.reduceAdd, Nat.reduceBEq, Int.reduceBNe, Int.reduceBEq, Nat.reduceLeDiff, q70]
    refine cond_intro (fun hcc => ?_) (fun hcc => ?_)
    · have hlt : i < l.length := by have := of_decide_eq_true hcc; omega
      have hw : IntKind.i64.wrap ((i : Int) + 1) = ((i + 1 : Nat) : Int) := by rw [wrap_i64 (by omega) (by omega)]; simp
      have hfn := begunF_n (l.take i)
      have htl : (l.take i).length ≤ i := by rw [List.length_take]; omega
      have est : begunF (l.take (i + 1)) = putN (begunF (l.take i)) l[i] := by
        unfold begunF
        rw [List.take_succ_eq_append_getElem hlt, List.foldl_append]; rfl
      have ho := hok l[i] (List.getElem_mem hlt)
      simp -dsimp only [Vm.G, List.lookup, Nat.reduceAdd, Nat.reduceBEq, Int.reduceBNe, Int.reduceBEq, Nat.reduceLeDiff, q70]
      refine idx_map ndAv l i hlt ?_
      generalize l[i] = n at est ho
      have hok2 : (yr20 n).ok := ⟨by show I64 2020; unfold I64; omega, ho.2⟩
      simp only [ndAv, ndCells]
      simp -dsimp only [Vm.G, List.lookup, Nat.reduceAdd, Nat.reduceBEq, Int.reduceBNe, Int.reduceBEq, Nat.reduceLeDiff, q70, AV.cells]
      refine call_one (S := tputSpec) rfl _ GaL.rfl ⟨V, begunF (l.take i), yr20 n, rfl, hok2, hB.1.1, fun h2 g1 g2 => ?_⟩
      simp -dsimp only [Vm.G, List.lookup, Nat.reduceAdd, Nat.reduceBEq, Int.reduceBNe, Int.reduceBEq, Nat.reduceLeDiff, q70]
      refine call_one (S := rtPutSpec) rfl _ GaL.rfl ⟨R, begunF (l.take i), yr20 n, rfl, hok2, hB.1.view g1 g2, by omega, fun h3 g3 g4 => ?_⟩
      have hB2 := hB.step g1 g2 g3 g4
      have hB2 : BothW h3 V R (begunF (l.take (i + 1))) noF := by rw [est]; exact hB2
      simp -dsimp only [Vm.G, List.lookup, Nat.reduceAdd, Nat.reduceBEq, Int.reduceBNe, Int.reduceBEq, Nat.reduceLeDiff, q70]
      refine kept_intro ⟨l.length - (i + 1), by omega, _, le_mk [(4, .ptr V.iv 0), (5, .ptr R.iv 0), (14, .sl 12 (l.map ndAv)), (15, .v (.int .i64 l.length)), (16, .v (.int .i64 (i + 1 : Nat)))] ?_, i + 1, by omega, hB2, rfl⟩
      simp only [List.forall_mem_cons, List.not_mem_nil, false_imp_iff, implies_true, and_true, hw]
      try simp -dsimp only [Vm.G, List.lookup, Nat.reduceAdd, Nat.reduceBEq, Int.reduceBNe, Int.reduceBEq, Nat.reduceLeDiff, q70, hw]
      repeat' first | exact Fg.refl _ | exact Fg.nil _ _ _ (by decide) | refine And.intro ?_ ?_
    · have hge : ¬ i < l.length := by have := of_decide_eq_false hcc; omega
      rw [List.take_of_length_le (by omega)] at hB
      simp -dsimp only [Vm.G, List.lookup, Nat.reduceAdd, Nat.reduceBEq, Int.reduceBNe, Int.reduceBEq, Nat.reduceLeDiff, q70]
      exact hq V R h' hB
structure Dop where
  year : Int
  frm : Int
  lines : List Ln
def dopAv (k : Dop) : AV := .agg [.v (.int .i64 k.year), .v (.int .i64 k.frm), .sl 4 (k.lines.map lnAv)]
def Dop.ok (k : Dop) : Prop := I64 k.year ∧ I64 k.frm ∧ ∀ x ∈ k.lines, x.ok
def fewWSpec : Vm.Spec := fun args h Q => ∃ (ns : List Nd) (l : List Dop), l.length ≤ 9223372036854775807 ∧ args = [.sl 12 (ns.map ndAv), .sl 3 (l.map dopAv)] ∧ ∀ b : Bool, (b = true → ns.length ≤ 20 ∧ l.length ≤ 20 ∧ ∀ k ∈ l, k.lines.length ≤ 20) → Q (.v (.bool b)) h
set_option maxHeartbeats 1000000 in
theorem does_few31 : Does Tryz.prog 68 fewWSpec := by
  refine does_of_awp good_nil Tryz.func68 rfl (by decide +kernel) (by decide +kernel) ?_
  rintro args h Q ⟨ns, l, hl, rfl, hq⟩
  refine ⟨by simp [Tryz.f68], ?_⟩
  rw [awpFunc_some (by rfl)]
  simp -dsimp only [Vm.G, List.lookup, Nat.reduceAdd, Nat.reduceBEq, Int.reduceBNe, Int.reduceBEq, Nat.reduceLeDiff, q68]
  have h1 := Bool.eq_false_or_eq_true (decide ((ns.length : Int) > 20))
  rcases h1 with c1 | c1
  · simp -dsimp only [Vm.G, List.lookup, Nat.reduceAdd, Nat.reduceBEq, Int.reduceBNe, Int.reduceBEq, Nat.reduceLeDiff, q68, c1]
    exact hq false fun h => by cases h
  · have d1 := of_decide_eq_false c1
    simp -dsimp only [Vm.G, List.lookup, Nat.reduceAdd, Nat.reduceBEq, Int.reduceBNe, Int.reduceBEq, Nat.reduceLeDiff, q68, c1]
    have h2 := Bool.eq_false_or_eq_true (decide ((l.length : Int) > 20))
    rcases h2 with c2 | c2
    · simp -dsimp only [Vm.G, List.lookup, Nat.reduceAdd, Nat.reduceBEq, Int.reduceBNe, Int.reduceBEq, Nat.reduceLeDiff, q68, c2]
      exact hq false fun h => by cases h
    · have d2 := of_decide_eq_false c2
      simp -dsimp only [Vm.G, List.lookup, Nat.reduceAdd, Nat.reduceBEq, Int.reduceBNe, Int.reduceBEq, Nat.reduceLeDiff, q68, c2]
      refine awp_loop (fun m s h' => ∃ i : Nat, i + m = l.length ∧ h' = h ∧ (∀ j (hj : j < l.length), j < i → l[j].lines.length ≤ 20) ∧ s = mk [(15, .sl 3 (l.map dopAv)), (16, .v (.int .i64 l.length)), (17, .v (.int .i64 i))])
        l.length _ (le_mk _ ?_) ⟨0, by omega, rfl, fun _ _ hj => by omega, rfl⟩ ?_
      · simp only [List.forall_mem_cons, List.not_mem_nil, false_imp_iff, implies_true, and_true]
        try simp -dsimp only [Vm.G, List.lookup, Nat.reduceAdd, Nat.reduceBEq, Int.reduceBNe, Int.reduceBEq, Nat.reduceLeDiff, q68]
        repeat' first | exact Fg.refl _ | exact Fg.nil _ _ _ (by decide) | refine And.intro ?_ ?_
      · rintro m s h' ⟨i, hi, rfl, hb, rfl⟩
        simp -dsimp only [Vm.G, List.lookup, Nat.reduceAdd, Nat.reduceBEq, Int.reduceBNe, Int.reduceBEq, Nat.reduceLeDiff, q68]
        refine cond_intro (fun hcc => ?_) (fun hcc => ?_)
        · have hlt : i < l.length := by have := of_decide_eq_true hcc; omega
          have hw : IntKind.i64.wrap ((i : Int) + 1) = ((i + 1 : Nat) : Int) := by rw [wrap_i64 (by omega) (by omega)]; simp
          have hxe : ∃ k, l[i] = k := ⟨_, rfl⟩
          rcases hxe with ⟨k, hk⟩
          simp -dsimp only [Vm.G, List.lookup, Nat.reduceAdd, Nat.reduceBEq, Int.reduceBNe, Int.reduceBEq, Nat.reduceLeDiff, q68]
          refine idx_map dopAv l i hlt ?_
          simp only [hk, dopAv]
          simp -dsimp only [Vm.G, List.lookup, Nat.reduceAdd, Nat.reduceBEq, Int.reduceBNe, Int.reduceBEq, Nat.reduceLeDiff, q68, AV.cells]
          have h3 := Bool.eq_false_or_eq_true (decide ((k.lines.length : Int) > 20))
          rcases h3 with c3 | c3
          · simp -dsimp only [Vm.G, List.lookup, Nat.reduceAdd, Nat.reduceBEq, Int.reduceBNe, Int.reduceBEq, Nat.reduceLeDiff, q68, c3]
            exact hq false fun h => by cases h
          · have d3 := of_decide_eq_false c3
            simp -dsimp only [Vm.G, List.lookup, Nat.reduceAdd, Nat.reduceBEq, Int.reduceBNe, Int.reduceBEq, Nat.reduceLeDiff, q68, c3]
            refine kept_intro ⟨l.length - (i + 1), by omega, _, le_mk [(15, .sl 3 (l.map dopAv)), (16, .v (.int .i64 l.length)), (17, .v (.int .i64 (i + 1 : Nat)))] ?_, i + 1, by omega, rfl, fun j hj hj2 => ?_, rfl⟩
            · simp only [List.forall_mem_cons, List.not_mem_nil, false_imp_iff, implies_true, and_true, hw]
              try simp -dsimp only [Vm.G, List.lookup, Nat.reduceAdd, Nat.reduceBEq, Int.reduceBNe, Int.reduceBEq, Nat.reduceLeDiff, q68, hw]
              repeat' first | exact Fg.refl _ | exact Fg.nil _ _ _ (by decide) | refine And.intro ?_ ?_
            · by_cases hji : j = i
              · subst hji; rw [hk]; omega
              · exact hb j hj (by omega)
        · have hge : ¬ i < l.length := by have := of_decide_eq_false hcc; omega
          simp -dsimp only [Vm.G, List.lookup, Nat.reduceAdd, Nat.reduceBEq, Int.reduceBNe, Int.reduceBEq, Nat.reduceLeDiff, q68]
          refine hq true fun _ => ⟨by omega, by omega, fun k hk => ?_⟩
          obtain ⟨j, hj, rfl⟩ := List.getElem_of_mem hk
          exact hb j hj (by omega)
theorem turnF_n {e : Int} {f g : Fun} {b : Nat} (h1 : f.n ≤ b) (h2 : g.n ≤ b) : (turnF e f g).n ≤ b := by unfold turnF; split <;> assumption
def plawSpec : Vm.Spec := fun args h Q => ∃ (ns : List Nd) (l : List Dop), ns.length ≤ 9223372036854775807 ∧ l.length ≤ 9223372036854775807 ∧ (∀ n ∈ ns, n.ok) ∧ (∀ k ∈ l, k.ok) ∧ args = [.sl 12 (ns.map ndAv), .sl 3 (l.map dopAv)] ∧ ∀ h', Q (.v (.bool true)) h'
set_option maxRecDepth 20000 in
set_option maxHeartbeats 4000000 in
theorem does_plaw : Does Tryz.prog 10 plawSpec := by
  refine does_of_awp (good_cons does_few31 (good_cons does_begunW31 (good_cons does_preNew (good_cons does_rPreNew (good_cons does_preCheck (good_cons does_rPreCheck (good_cons does_end31 (good_cons does_law31awake good_nil)))))))) Tryz.func10 rfl (by decide +kernel) (by decide +kernel) ?_
  rintro args h Q ⟨ns, l, hns, hl, hnok, hlok, rfl, hq⟩
  refine ⟨by simp [Tryz.f10], ?_⟩
  rw [awpFunc_some (by rfl)]
  simp -dsimp only [Vm.G, List.lookup, Nat.reduceAdd, Nat.reduceBEq, Int.reduceBNe, Int.reduceBEq, Nat.reduceLeDiff, q10]
  refine call_one (S := fewWSpec) rfl _ GaL.rfl ⟨ns, l, hl, rfl, fun b hb => ?_⟩
  have h0 := Bool.eq_false_or_eq_true b
  rcases h0 with c | c
  · have hbb := hb c
    rcases hbb with ⟨b1, b2, b3⟩
    simp -dsimp only [Vm.G, List.lookup, Nat.reduceAdd, Nat.reduceBEq, Int.reduceBNe, Int.reduceBEq, Nat.reduceLeDiff, q10, c]
    refine call_one (S := begunWSpec) rfl _ GaL.rfl ⟨ns, by omega, hnok, rfl, fun V R0 h1 hB => ?_⟩
    have hbn := begunF_n ns
    generalize begunF ns = f0 at hB hbn
    have hr0 : ∃ r0, r0 = R0.iv := ⟨_, rfl⟩
    rcases hr0 with ⟨r0, hr0⟩
    rw [← hr0]
    simp -dsimp only [Vm.G, List.lookup, Nat.reduceAdd, Nat.reduceBEq, Int.reduceBNe, Int.reduceBEq, Nat.reduceLeDiff, q10]
    refine awp_loop (fun m s h' => ∃ (i : Nat) (R : RId) (f g : Fun), i + m = l.length ∧ R.iv = r0 ∧ BothW h' V R f g ∧ f.n ≤ 21 + 56 * i ∧ g.n ≤ 21 + 56 * i ∧ s = mk [(5, .ptr V.iv 0), (6, .ptr r0 0), (25, .sl 3 (l.map dopAv)), (26, .v (.int .i64 l.length)), (27, .v (.int .i64 (i : Nat)))])
      l.length _ (le_mk _ ?_) ⟨0, R0, f0, noF, by omega, hr0.symm, hB, by omega, Nat.zero_le _, rfl⟩ ?_
    · simp only [List.forall_mem_cons, List.not_mem_nil, false_imp_iff, implies_true, and_true]
      try simp -dsimp only [Vm.G, List.lookup, Nat.reduceAdd, Nat.reduceBEq, Int.reduceBNe, Int.reduceBEq, Nat.reduceLeDiff, q10]
      repeat' first | exact Fg.refl _ | exact Fg.nil _ _ _ (by decide) | refine And.intro ?_ ?_
    · clear hB hbn hr0
      rintro m s h' ⟨i, R, f, g, hi, hr, hB, hfn, hgn, rfl⟩
      simp -dsimp only [Vm.G, List.lookup, Nat.reduceAdd, Nat.reduceBEq, Int.reduceBNe, Int.reduceBEq, Nat.reduceLeDiff, q10]
      refine cond_intro (fun hcc => ?_) (fun hcc => ?_)
      · have hlt : i < l.length := by have := of_decide_eq_true hcc; omega
        have hw : IntKind.i64.wrap ((i : Int) + 1) = ((i + 1 : Nat) : Int) := by rw [wrap_i64 (by omega) (by omega)]; simp
        have hk := hlok l[i] (List.getElem_mem hlt)
        have hk2 := b3 l[i] (List.getElem_mem hlt)
        have hxe : ∃ k, l[i] = k := ⟨_, rfl⟩
        rcases hxe with ⟨k, hkx⟩
        rw [hkx] at hk hk2
        rcases hk with ⟨o1, o2, o3⟩
        have hpn := preNew_n f k.year k.lines
        simp -dsimp only [Vm.G, List.lookup, Nat.reduceAdd, Nat.reduceBEq, Int.reduceBNe, Int.reduceBEq, Nat.reduceLeDiff, q10]
        refine idx_map dopAv l i hlt ?_
        simp only [hkx, dopAv]
        simp -dsimp only [Vm.G, List.lookup, Nat.reduceAdd, Nat.reduceBEq, Int.reduceBNe, Int.reduceBEq, Nat.reduceLeDiff, q10, AV.cells]
        refine call_one (S := preNewSpec) rfl _ GaL.rfl ⟨V, f, k.year, k.lines, o1, by omega, o3, rfl, hB.1.1, fun h2 g1 g2 => ?_⟩
        simp -dsimp only [Vm.G, List.lookup, Nat.reduceAdd, Nat.reduceBEq, Int.reduceBNe, Int.reduceBEq, Nat.reduceLeDiff, q10]
        refine call_one (S := rPreNewSpec) rfl _ GaL.rfl ⟨R, f, k.year, k.lines, o1, by omega, o3, by rw [hr], hB.1.view g1 g2, by omega, fun h3 g3 g4 => ?_⟩
        have hB2 := hB.step g1 g2 g3 g4
        generalize preNew f k.year k.lines = q at hpn hB2 ⊢
        rcases q with ⟨q0, qi, qw, qe⟩
        simp only at hpn hB2 ⊢
        simp -dsimp only [Vm.G, List.lookup, Nat.reduceAdd, Nat.reduceBEq, Int.reduceBNe, Int.reduceBEq, Nat.reduceLeDiff, q10]
        refine draw_cont [8] (.take 0 (.take 1 (.take 2 (.take 3 (.take 4 (.take 5 (.take 6 (.take 7 (.take 8 (.take 9 (.take 10 (.take 11 (.take 12 (.take 13 (.take 14 (.take 17 (.alt 15 (.alt 16 (.alt 18 (.alt 19 (.take 20 (.take 21 (.take 22 (.take 23 (.take 24 (.take 25 (.alt 26 (.take 27 (.take 28 (.done))) .stop))))))) .stop) .stop) (.alt 18 (.alt 16 (.alt 19 (.take 20 (.take 21 (.take 22 (.take 23 (.take 24 (.take 25 (.alt 26 (.take 27 (.take 28 (.done))) .stop))))))) .stop) .stop) (.stop))) (.alt 18 (.alt 15 (.alt 16 (.alt 19 (.take 20 (.take 21 (.take 22 (.take 23 (.take 24 (.take 25 (.alt 26 (.take 27 (.take 28 (.done))) .stop))))))) .stop) .stop) .stop) (.stop))))))))))))))))))) (fun s h4 => (∃ R2 : RId, R2.iv = r0 ∧ BothW h4 V R2 (turnF qe q0 g) (turnF qe q0 g)) ∧ s 79 = .v (.bool false) ∧ s 5 = .ptr V.iv 0 ∧ s 6 = .ptr r0 0 ∧ s 25 = .sl 3 (l.map dopAv) ∧ s 26 = .v (.int .i64 l.length) ∧ s 27 = .v (.int .i64 i)) (by kernel_rfl) (by kernel_rfl) (by kernel_rfl) (by decide) ?_ ?_
        · clear hq
          repeat' first
            | with_reducible exact True.intro
            | simp -dsimp only [Vm.G, List.lookup, Nat.reduceAdd, Nat.reduceBEq, Int.reduceBNe, Int.reduceBEq, Nat.reduceLeDiff, q10, bool_neq, bne_self_eq_false, beq_self_eq_true]
            | refine call_one (S := preCheckSpec) rfl _ GaL.rfl ⟨k.lines, by omega, rfl, ?_⟩
            | refine call_one (S := endSpec) rfl _ GaL.rfl ⟨V, R, q0, g, qe, by rw [hr], hB2, by omega, by omega, fun R2 h4 e4 hB4 => ?_⟩
            | refine tree_alt ?_ ?_
            | refine ⟨⟨R2, e4.trans hr, hB4⟩, ?_⟩
            | repeat' first | rfl | exact True.intro | refine And.intro ?_ ?_
        · rintro s h4 ⟨⟨R2, e2, hB4⟩, e79, e5, e6, e25, e26, e27⟩
          simp -dsimp only [Vm.G, List.lookup, Nat.reduceAdd, Nat.reduceBEq, Int.reduceBNe, Int.reduceBEq, Nat.reduceLeDiff, q10, e79, e5, e6, e25, e26, e27]
          refine kept_intro ⟨l.length - (i + 1), by omega, _, le_mk [(5, .ptr V.iv 0), (6, .ptr r0 0), (25, .sl 3 (l.map dopAv)), (26, .v (.int .i64 l.length)), (27, .v (.int .i64 (i + 1 : Nat)))] ?_, i + 1, R2, _, _, by omega, e2, hB4, turnF_n (by omega) (by omega), turnF_n (by omega) (by omega), rfl⟩
          simp only [List.forall_mem_cons, List.not_mem_nil, false_imp_iff, implies_true, and_true, hw, e5, e6, e25, e26, e27]
          try simp -dsimp only [Vm.G, List.lookup, Nat.reduceAdd, Nat.reduceBEq, Int.reduceBNe, Int.reduceBEq, Nat.reduceLeDiff, q10, hw, e5, e6, e25, e26, e27]
          repeat' first | exact Fg.refl _ | exact Fg.nil _ _ _ (by decide) | refine And.intro ?_ ?_
      · have hge : ¬ i < l.length := by have := of_decide_eq_false hcc; omega
        clear hcc
        simp -dsimp only [Vm.G, List.lookup, Nat.reduceAdd, Nat.reduceBEq, Int.reduceBNe, Int.reduceBEq, Nat.reduceLeDiff, q10]
        refine call_one (S := trueSpec) rfl _ GaL.rfl ⟨rfl, fun hz => ?_⟩
        simp -dsimp only [Vm.G, List.lookup, Nat.reduceAdd, Nat.reduceBEq, Int.reduceBNe, Int.reduceBEq, Nat.reduceLeDiff, q10]
        exact hq _
  · simp -dsimp only [Vm.G, List.lookup, Nat.reduceAdd, Nat.reduceBEq, Int.reduceBNe, Int.reduceBEq, Nat.reduceLeDiff, q10, c]
    refine call_one (S := trueSpec) rfl _ GaL.rfl ⟨rfl, fun hz => ?_⟩
    simp -dsimp only [Vm.G, List.lookup, Nat.reduceAdd, Nat.reduceBEq, Int.reduceBNe, Int.reduceBEq, Nat.reduceLeDiff, q10]
    exact hq _
theorem isA_lnk {y : AV} (h : IsA (.agg [.int .i64, .int .i64, .int .i64, .int .i64]) y) : ∃ x : Ln, x.ok ∧ y = lnAv x := by
  simp only [IsA, IsAll] at h
  obtain ⟨ys, ⟨y1, r1, rfl, h1, y2, r2, rfl, h2, y3, r3, rfl, h3, y4, r4, rfl, h4, rfl⟩, rfl⟩ := h
  obtain ⟨a1, k1, rfl⟩ := isA_int (by simpa only [IsA] using h1)
  obtain ⟨a2, k2, rfl⟩ := isA_int (by simpa only [IsA] using h2)
  obtain ⟨a3, k3, rfl⟩ := isA_int (by simpa only [IsA] using h3)
  obtain ⟨a4, k4, rfl⟩ := isA_int (by simpa only [IsA] using h4)
  exact ⟨⟨a1, a2, a3, a4⟩, ⟨k1, k2, k3, k4⟩, rfl⟩
theorem isA_dop {y : AV} (h : IsA (.agg [.int .i64, .int .i64, .sl (.agg [.int .i64, .int .i64, .int .i64, .int .i64])]) y) : ∃ k : Dop, k.ok ∧ y = dopAv k := by
  simp only [IsA, IsAll] at h
  obtain ⟨ys, ⟨y1, r1, rfl, h1, y2, r2, rfl, h2, y3, r3, rfl, h3, rfl⟩, rfl⟩ := h
  obtain ⟨a1, k1, rfl⟩ := isA_int (by simpa only [IsA] using h1)
  obtain ⟨a2, k2, rfl⟩ := isA_int (by simpa only [IsA] using h2)
  obtain ⟨ll, -, rfl, hll⟩ := isA_list _ lnAv (fun y hy => isA_lnk hy) (by simpa only [IsA, IsAll] using h3)
  exact ⟨⟨a1, a2, ll⟩, ⟨k1, k2, hll⟩, rfl⟩
theorem plaw_args {y0 y1 : AV} (i0 : IsA (.sl (.agg [.int .i64, .int .i64, .int .i64, .int .i64, .int .i64, .bool, .int .i64, .int .i64, .int .i64, .int .i64, .int .i64, .int .i64])) y0) (i1 : IsA (.sl (.agg [.int .i64, .int .i64, .sl (.agg [.int .i64, .int .i64, .int .i64, .int .i64])])) y1) {Q : AV → Heap → Prop} (hq : ∀ h', Q (.v (.bool true)) h') : plawSpec [y0, y1] [] Q := by
  obtain ⟨ns, h1, rfl, o1⟩ := isA_list _ ndAv (fun y hy => isA_nd hy) i0
  obtain ⟨l, h2, rfl, o2⟩ := isA_list _ dopAv (fun y hy => isA_dop hy) i1
  exact ⟨ns, l, h1, h2, o1, o2, rfl, hq⟩
end Go.Proofs.Lx
