/- What the functions of the program do: their contracts. -/
import Derived.Test.YtiggbkhkmecagaaGreatDoorV2
import Derived.Test.YtiggbkhkmecagaaGreatDoorTFs
import Derived.Test.YtiggbkhkmecagaaGreatDoorW1
/- The law DocsLive. -/
set_option linter.unusedSimpArgs false
set_option linter.unusedVariables false
namespace Go.Proofs.Lx
open Go.Vm
attribute [local irreducible] awpArr awpBin awpMake awpAppend awpCvX awpStrOf awpBinX awpSlice awpBS awpStore awpAlloc awpCopy awpIndex awpDraw awpIdxX awpFa awpField awpLookup awpUpdate awpDelete awpClear awpRange awpNext awpEntry awpBuild awpClearS awpIdxL awpTree appB awpIdxO eltA treeA
def both30Spec : Vm.Spec := fun args h Q => ∃ first : List KV, first.length ≤ 268435456 ∧ args = [.sl 2 (first.map kvAv)] ∧ ∀ (V : VId) (R : RId) (h' : Heap) (f : Fun), Both h' V R f → f.n ≤ first.length → Q (.tup [.ptr V.iv 0, .ptr R.iv 0]) h'
set_option maxRecDepth 20000 in
set_option maxHeartbeats 1000000 in
theorem does_both30 : Does Tryz.prog 41 both30Spec := by
  refine does_of_awp (good_cons does_vnewA (good_cons does_rNewA (good_cons does_vput (good_cons does_rSet good_nil)))) Tryz.func41 rfl (by decide +kernel) (by decide +kernel) ?_
  rintro args h Q ⟨first, hfl, rfl, hq⟩
  refine ⟨by simp [Tryz.f41], ?_⟩
  rw [awpFunc_some (by rfl)]
  simp -dsimp only [Vm.G, List.lookup, Nat.reduceAdd, Nat.reduceBEq, Int.reduceBNe, Int.reduceBEq, Nat.reduceLeDiff, q41]
  refine call_one (S := vnewASpec) rfl _ GaL.rfl ⟨rfl, fun V h00 hV00 => ?_⟩
  simp -dsimp only [Vm.G, List.lookup, Nat.reduceAdd, Nat.reduceBEq, Int.reduceBNe, Int.reduceBEq, Nat.reduceLeDiff, q41]
  refine call_one (S := rNewASpec) rfl _ (.cons (.nil 2) .nil) ⟨V, rfl, hV00, fun R h0 hB0 => ?_⟩
  clear hV00
  simp -dsimp only [Vm.G, List.lookup, Nat.reduceAdd, Nat.reduceBEq, Int.reduceBNe, Int.reduceBEq, Nat.reduceLeDiff, q41]
  refine awp_loop (fun m s h' => ∃ (i : Nat) (f : Fun), i + m = first.length ∧ Both h' V R f ∧ f.n ≤ i ∧ s = mk [(4, .ptr V.iv 0), (5, .ptr R.iv 0), (10, .sl 2 (first.map kvAv)), (11, .v (.int .i64 first.length)), (12, .v (.int .i64 i))])
    first.length _ (le_mk _ ?_) ⟨0, noF, by omega, hB0, Nat.le_refl _, rfl⟩ ?_
  · simp only [List.forall_mem_cons, List.not_mem_nil, false_imp_iff, implies_true, and_true]
    try simp -dsimp only [Vm.G, List.lookup, Nat.reduceAdd, Nat.reduceBEq, Int.reduceBNe, Int.reduceBEq, Nat.reduceLeDiff, q41]
    repeat' first | exact Fg.refl _ | exact Fg.nil _ _ _ (by decide) | refine And.intro ?_ ?_
  · clear hB0
    rintro m s h' ⟨i, f, hi, hB, hfn, rfl⟩
    simp -dsimp only [Vm.G, List.lookup, Nat.reduceAdd, Nat.reduceBEq, Int.reduceBNe, Int.reduceBEq, Nat.reduceLeDiff, q41]
    refine cond_intro (fun hcc => ?_) (fun hcc => ?_)
    · have hlt : i < first.length := by have := of_decide_eq_true hcc; omega
      have hw : IntKind.i64.wrap ((i : Int) + 1) = ((i + 1 : Nat) : Int) := by rw [wrap_i64 (by omega) (by omega)]; simp
      obtain ⟨p, hp⟩ : ∃ p, first[i] = p := ⟨_, rfl⟩
      have hnn := addKV_n f p
      simp -dsimp only [Vm.G, List.lookup, Nat.reduceAdd, Nat.reduceBEq, Int.reduceBNe, Int.reduceBEq, Nat.reduceLeDiff, q41]
      refine idx_map kvAv first i hlt ?_
      simp only [hp, kvAv]
      simp -dsimp only [Vm.G, List.lookup, Nat.reduceAdd, Nat.reduceBEq, Int.reduceBNe, Int.reduceBEq, Nat.reduceLeDiff, q41, AV.cells]
      refine call_one (S := vputSpec) rfl _ GaL.rfl ⟨V, f, p.1, p.2, rfl, hB.1, fun hr h1 g1 g2 => ?_, fun hr => ?_⟩
      · have hR1 := hB.view g1 g2
        have ea : upd f p.1 (some p.2) = addKV f p := by unfold addKV; rw [if_pos hr]
        rw [ea] at g1
        simp -dsimp only [Vm.G, List.lookup, Nat.reduceAdd, Nat.reduceBEq, Int.reduceBNe, Int.reduceBEq, Nat.reduceLeDiff, q41]
        refine call_one (S := rSetSpec) rfl _ GaL.rfl ⟨R, f, p, rfl, hR1, by omega, fun h2 g3 g4 => ?_⟩
        have hB2 := hB.ref g1 g3 g4
        simp -dsimp only [Vm.G, List.lookup, Nat.reduceAdd, Nat.reduceBEq, Int.reduceBNe, Int.reduceBEq, Nat.reduceLeDiff, q41]
        refine kept_intro ⟨first.length - (i + 1), by omega, _, le_mk [(4, .ptr V.iv 0), (5, .ptr R.iv 0), (10, .sl 2 (first.map kvAv)), (11, .v (.int .i64 first.length)), (12, .v (.int .i64 (i + 1 : Nat)))] ?_, i + 1, addKV f p, by omega, hB2, by omega, rfl⟩
        simp only [List.forall_mem_cons, List.not_mem_nil, false_imp_iff, implies_true, and_true, hw]
        try simp -dsimp only [Vm.G, List.lookup, Nat.reduceAdd, Nat.reduceBEq, Int.reduceBNe, Int.reduceBEq, Nat.reduceLeDiff, q41, hw]
        repeat' first | exact Fg.refl _ | exact Fg.nil _ _ _ (by decide) | refine And.intro ?_ ?_
      · have ea : f = addKV f p := by unfold addKV; rw [if_neg (by rw [hr]; decide)]
        have hV1 : isView h' V (addKV f p) := by rw [← ea]; exact hB.1
        simp -dsimp only [Vm.G, List.lookup, Nat.reduceAdd, Nat.reduceBEq, Int.reduceBNe, Int.reduceBEq, Nat.reduceLeDiff, q41]
        refine call_one (S := rSetSpec) rfl _ GaL.rfl ⟨R, f, p, rfl, hB.2.1, by omega, fun h2 g3 g4 => ?_⟩
        have hB2 := hB.ref hV1 g3 g4
        simp -dsimp only [Vm.G, List.lookup, Nat.reduceAdd, Nat.reduceBEq, Int.reduceBNe, Int.reduceBEq, Nat.reduceLeDiff, q41]
        refine kept_intro ⟨first.length - (i + 1), by omega, _, le_mk [(4, .ptr V.iv 0), (5, .ptr R.iv 0), (10, .sl 2 (first.map kvAv)), (11, .v (.int .i64 first.length)), (12, .v (.int .i64 (i + 1 : Nat)))] ?_, i + 1, addKV f p, by omega, hB2, by omega, rfl⟩
        simp only [List.forall_mem_cons, List.not_mem_nil, false_imp_iff, implies_true, and_true, hw]
        try simp -dsimp only [Vm.G, List.lookup, Nat.reduceAdd, Nat.reduceBEq, Int.reduceBNe, Int.reduceBEq, Nat.reduceLeDiff, q41, hw]
        repeat' first | exact Fg.refl _ | exact Fg.nil _ _ _ (by decide) | refine And.intro ?_ ?_
    · simp -dsimp only [Vm.G, List.lookup, Nat.reduceAdd, Nat.reduceBEq, Int.reduceBNe, Int.reduceBEq, Nat.reduceLeDiff, q41]
      exact hq V R h' f hB (by omega)
def eqSelfDl : Vm.Spec := fun args h Q => ∃ l : List Dl, l.length ≤ 9223372036854775807 ∧ args = [.sl 4 (l.map dlAv), .sl 4 (l.map dlAv)] ∧ Q (.v (.bool true)) h
theorem does_eqSelfDl : Does Tryz.prog 38 eqSelfDl := does_eqDl.imp (by
  rintro args h Q ⟨l, hl, rfl, hq⟩
  exact ⟨l, l, hl, rfl, fun b hb => by rw [hb.2 rfl]; exact hq⟩)
structure Dod where
  op : Int
  id : Int
  ln : Int
  doc : Dc
  lines : List Dl
  to : Dl
def dodAv (k : Dod) : AV := .agg [.v (.int .i64 k.op), .v (.int .i64 k.id), .v (.int .i64 k.ln), .v (.int .i64 k.doc.id), .v (.int .i64 k.doc.kind), .v (.int .i64 k.doc.year), .v (.int .i64 k.doc.frm), .v (.int .i64 k.doc.lines), .sl 4 (k.lines.map dlAv), .v (.int .i64 k.to.node), .v (.int .i64 k.to.orig), .v (.int .i64 k.to.liq), .v (.int .i64 k.to.can)]
def Dod.ok (k : Dod) : Prop := I64 k.id ∧ I64 k.ln ∧ k.doc.ok ∧ (∀ x ∈ k.lines, x.ok) ∧ k.to.ok
def dliveSpec : Vm.Spec := fun args h Q => ∃ (first : List KV) (l : List Dod), first.length ≤ 9223372036854775807 ∧ l.length ≤ 9223372036854775807 ∧ (∀ k ∈ l, k.ok) ∧ args = [.sl 2 (first.map kvAv), .sl 13 (l.map dodAv)] ∧ ∀ h', Q (.v (.bool true)) h'
set_option maxRecDepth 20000 in
set_option maxHeartbeats 8000000 in
theorem does_dlive : Does Tryz.prog 7 dliveSpec := by
  refine does_of_awp (good_cons does_few (good_cons does_both30 (good_cons does_docsPut (good_cons does_rDocsPut (good_cons does_docsSet (good_cons does_rDocsSet (good_cons does_docsGet (good_cons does_rDocsGet (good_cons does_eqSelfDl (good_cons does_docsLast (good_cons does_rLast (good_cons does_docsOpen (good_cons does_rDocsOpen (good_cons does_docsRight (good_cons does_rDocsRight (good_cons does_docsAll (good_cons does_rDocsAll (good_cons does_eqInt (good_cons does_same (good_cons does_law30awake good_nil)))))))))))))))))))) Tryz.func7 rfl (by decide +kernel) (by decide +kernel) ?_
  rintro args h Q ⟨first, l, hfl, hl, hok, rfl, hq⟩
  refine ⟨by simp [Tryz.f7], ?_⟩
  rw [awpFunc_some (by rfl)]
  simp -dsimp only [Vm.G, List.lookup, Nat.reduceAdd, Nat.reduceBEq, Int.reduceBNe, Int.reduceBEq, Nat.reduceLeDiff, q7]
  refine call_one (S := fewSpec) rfl _ GaL.rfl ⟨first, 30, hfl, rfl, ?_⟩
  have hf0 := Bool.eq_false_or_eq_true (fewOf first 30)
  rcases hf0 with cf | cf
  · have hf30 := few_true cf
    simp -dsimp only [Vm.G, List.lookup, Nat.reduceAdd, Nat.reduceBEq, Int.reduceBNe, Int.reduceBEq, Nat.reduceLeDiff, q7, cf]
    have hc40 := Bool.eq_false_or_eq_true (decide ((l.length : Int) > 40))
    rcases hc40 with c40 | c40
    · simp -dsimp only [Vm.G, List.lookup, Nat.reduceAdd, Nat.reduceBEq, Int.reduceBNe, Int.reduceBEq, Nat.reduceLeDiff, q7, c40]
      refine call_one (S := trueSpec) rfl _ GaL.rfl ⟨rfl, fun hz => ?_⟩
      simp -dsimp only [Vm.G, List.lookup, Nat.reduceAdd, Nat.reduceBEq, Int.reduceBNe, Int.reduceBEq, Nat.reduceLeDiff, q7]
      exact hq _
    · have d40 := of_decide_eq_false c40
      simp -dsimp only [Vm.G, List.lookup, Nat.reduceAdd, Nat.reduceBEq, Int.reduceBNe, Int.reduceBEq, Nat.reduceLeDiff, q7, c40]
      refine call_one (S := both30Spec) rfl _ GaL.rfl ⟨first, by omega, rfl, fun V R h1 f hB hfn => ?_⟩
      simp -dsimp only [Vm.G, List.lookup, Nat.reduceAdd, Nat.reduceBEq, Int.reduceBNe, Int.reduceBEq, Nat.reduceLeDiff, q7]
      refine awp_loop (fun m s h' => ∃ (i : Nat) (f : Fun), i + m = l.length ∧ Both h' V R f ∧ f.n ≤ 30 + 8 * i ∧ s = mk [(5, .ptr V.iv 0), (6, .ptr R.iv 0), (33, .sl 13 (l.map dodAv)), (34, .v (.int .i64 l.length)), (35, .v (.int .i64 (i : Nat)))])
        l.length _ (le_mk _ ?_) ⟨0, f, by omega, hB, by omega, rfl⟩ ?_
      · simp only [List.forall_mem_cons, List.not_mem_nil, false_imp_iff, implies_true, and_true]
        try simp -dsimp only [Vm.G, List.lookup, Nat.reduceAdd, Nat.reduceBEq, Int.reduceBNe, Int.reduceBEq, Nat.reduceLeDiff, q7]
        repeat' first | exact Fg.refl _ | exact Fg.nil _ _ _ (by decide) | refine And.intro ?_ ?_
      · clear hB hfn
        rintro m s h' ⟨i, f, hi, hB, hfn, rfl⟩
        simp -dsimp only [Vm.G, List.lookup, Nat.reduceAdd, Nat.reduceBEq, Int.reduceBNe, Int.reduceBEq, Nat.reduceLeDiff, q7]
        refine cond_intro (fun hcc => ?_) (fun hcc => ?_)
        · have hlt : i < l.length := by have := of_decide_eq_true hcc; omega
          have hw : IntKind.i64.wrap ((i : Int) + 1) = ((i + 1 : Nat) : Int) := by rw [wrap_i64 (by omega) (by omega)]; simp
          have hk := hok l[i] (List.getElem_mem hlt)
          have hxe : ∃ k, l[i] = k := ⟨_, rfl⟩
          rcases hxe with ⟨k, hkx⟩
          rw [hkx] at hk
          rcases hk with ⟨o1, o2, o3, o4, o5⟩
          have hpn := docsPut_n f k.doc k.lines
          have hsn := docsSet_n f k.id k.ln k.to
          simp -dsimp only [Vm.G, List.lookup, Nat.reduceAdd, Nat.reduceBEq, Int.reduceBNe, Int.reduceBEq, Nat.reduceLeDiff, q7]
          refine idx_map dodAv l i hlt ?_
          simp only [hkx, dodAv]
          simp -dsimp only [Vm.G, List.lookup, Nat.reduceAdd, Nat.reduceBEq, Int.reduceBNe, Int.reduceBEq, Nat.reduceLeDiff, q7, AV.cells]
          have hc30 := Bool.eq_false_or_eq_true (decide ((k.lines.length : Int) > 30))
          rcases hc30 with c30 | c30
          · simp -dsimp only [Vm.G, List.lookup, Nat.reduceAdd, Nat.reduceBEq, Int.reduceBNe, Int.reduceBEq, Nat.reduceLeDiff, q7, c30]
            refine call_one (S := sameSpec) rfl _ GaL.rfl ⟨V, R, f, rfl, hB, by omega, fun h5 hB5 => ?_⟩
            simp -dsimp only [Vm.G, List.lookup, Nat.reduceAdd, Nat.reduceBEq, Int.reduceBNe, Int.reduceBEq, Nat.reduceLeDiff, q7]
            refine call_one (S := trueSpec) rfl _ GaL.rfl ⟨rfl, fun hz => ?_⟩
            simp -dsimp only [Vm.G, List.lookup, Nat.reduceAdd, Nat.reduceBEq, Int.reduceBNe, Int.reduceBEq, Nat.reduceLeDiff, q7]
            exact hq _
          · have d30 := of_decide_eq_false c30
            simp -dsimp only [Vm.G, List.lookup, Nat.reduceAdd, Nat.reduceBEq, Int.reduceBNe, Int.reduceBEq, Nat.reduceLeDiff, q7, c30]
            have hop := Bool.eq_false_or_eq_true (decide (k.op < 2))
            rcases hop with cop | cop
            · simp -dsimp only [Vm.G, List.lookup, Nat.reduceAdd, Nat.reduceBEq, Int.reduceBNe, Int.reduceBEq, Nat.reduceLeDiff, q7, cop]
              refine call_one (S := docsPutSpec) rfl _ GaL.rfl ⟨V, f, k.doc, k.lines, o3, o4, rfl, hB.1, fun h2 g1 g2 => ?_⟩
              simp -dsimp only [Vm.G, List.lookup, Nat.reduceAdd, Nat.reduceBEq, Int.reduceBNe, Int.reduceBEq, Nat.reduceLeDiff, q7]
              refine call_one (S := rDocsPutSpec) rfl _ GaL.rfl ⟨R, f, k.doc, k.lines, o3, o4, rfl, hB.view g1 g2, by omega, fun h3 g3 g4 => ?_⟩
              have hBg := hB.ref g1 g3 g4
              generalize docsPut f k.doc k.lines = q at hpn hBg ⊢
              rcases q with ⟨g, qa, qb⟩
              simp only at hpn hBg ⊢
              simp -dsimp only [Vm.G, List.lookup, Nat.reduceAdd, Nat.reduceBEq, Int.reduceBNe, Int.reduceBEq, Nat.reduceLeDiff, q7, bne_self_eq_false]
              refine call_one (S := docsGetSpec) rfl _ GaL.rfl ⟨V, g, k.id, rfl, hBg.1, fun d2 l2 hd2 hl6 hdl => ?_, fun hn2 => ?_⟩
              · simp only [dcCells]
                simp -dsimp only [Vm.G, List.lookup, Nat.reduceAdd, Nat.reduceBEq, Int.reduceBNe, Int.reduceBEq, Nat.reduceLeDiff, q7]
                refine call_one (S := rDocsGetSpec) rfl _ GaL.rfl ⟨R, g, k.id, rfl, hBg.2.1, by omega, fun d3 l3 hd3 hl63 hdl3 => ?_, fun hn => by rw [hd2] at hn; cases hn⟩
                rw [hd2] at hd3
                cases hd3
                simp only [dcCells]
                simp -dsimp only [Vm.G, List.lookup, Nat.reduceAdd, Nat.reduceBEq, Int.reduceBNe, Int.reduceBEq, Nat.reduceLeDiff, q7]
                refine draw_cont [8, 13, 16] (.take 0 (.take 1 (.take 2 (.take 3 (.take 4 (.take 5 (.alt 6 (.take 7 (.take 8 (.take 9 (.take 10 (.take 11 (.take 12 (.take 13 (.take 14 (.take 15 (.take 17 (.alt 16 (.alt 18 (.take 19 (.take 20 (.take 21 (.take 22 (.take 23 (.take 25 (.take 26 (.alt 24 (.alt 27 (.take 28 (.take 29 (.take 30 (.take 31 (.take 32 (.take 34 (.take 35 (.alt 33 (.alt 36 (.take 37 (.take 38 (.done))) .stop) .stop)))))))) .stop) .stop)))))))) .stop) .stop))))))))))) .stop))))))) (fun s h2 => Both h2 V R g ∧ s 143 = .v (.bool false) ∧ s 8 = .eptr [.v (.int .i64 k.op), .v (.int .i64 k.id), .v (.int .i64 k.ln), .v (.int .i64 k.doc.id), .v (.int .i64 k.doc.kind), .v (.int .i64 k.doc.year), .v (.int .i64 k.doc.frm), .v (.int .i64 k.doc.lines), .sl 4 (k.lines.map dlAv), .v (.int .i64 k.to.node), .v (.int .i64 k.to.orig), .v (.int .i64 k.to.liq), .v (.int .i64 k.to.can)] ∧ s 5 = .ptr V.iv 0 ∧ s 6 = .ptr R.iv 0 ∧ s 33 = .sl 13 (l.map dodAv) ∧ s 34 = .v (.int .i64 l.length) ∧ s 35 = .v (.int .i64 i)) (by kernel_rfl) (by kernel_rfl) (by kernel_rfl) (by decide) ?_ ?_
                · clear hq
                  simp -dsimp only [Vm.G, List.lookup, Nat.reduceAdd, Nat.reduceBEq, Int.reduceBNe, Int.reduceBEq, Nat.reduceLeDiff, q7, Bool.true_and]
                  refine eq_agg fd54 rfl ?_
                  simp -dsimp only [Vm.G, List.lookup, Nat.reduceAdd, Nat.reduceBEq, Int.reduceBNe, Int.reduceBEq, Nat.reduceLeDiff, q7, Bool.true_and, Bool.and_self, bool_neq, beq_self_eq_true]
                  refine call_one (S := eqSelfDl) rfl _ GaL.rfl ⟨l2, by omega, rfl, ?_⟩
                  simp -dsimp only [Vm.G, List.lookup, Nat.reduceAdd, Nat.reduceBEq, Int.reduceBNe, Int.reduceBEq, Nat.reduceLeDiff, q7, Bool.true_and, Bool.and_self, bool_neq, beq_self_eq_true]
                  refine call_one (S := lastSpec) rfl _ GaL.rfl ⟨V, g, rfl, hBg.1, ?_⟩
                  simp -dsimp only [Vm.G, List.lookup, Nat.reduceAdd, Nat.reduceBEq, Int.reduceBNe, Int.reduceBEq, Nat.reduceLeDiff, q7, Bool.true_and]
                  refine call_one (S := rLastSpec) rfl _ GaL.rfl ⟨R, g, 2, rfl, hBg.2.1, by omega, ?_⟩
                  simp -dsimp only [Vm.G, List.lookup, Nat.reduceAdd, Nat.reduceBEq, Int.reduceBNe, Int.reduceBEq, Nat.reduceLeDiff, q7, bne_self_eq_false]
                  refine call_one (S := openDSpec) rfl _ GaL.rfl ⟨k.to, rfl, ?_⟩
                  simp -dsimp only [Vm.G, List.lookup, Nat.reduceAdd, Nat.reduceBEq, Int.reduceBNe, Int.reduceBEq, Nat.reduceLeDiff, q7, Bool.true_and]
                  refine call_one (S := openDSpec) rfl _ GaL.rfl ⟨k.to, rfl, ?_⟩
                  simp -dsimp only [Vm.G, List.lookup, Nat.reduceAdd, Nat.reduceBEq, Int.reduceBNe, Int.reduceBEq, Nat.reduceLeDiff, q7, bne_self_eq_false]
                  refine call_one (S := rightDSpec) rfl _ GaL.rfl ⟨k.to, rfl, ?_⟩
                  simp -dsimp only [Vm.G, List.lookup, Nat.reduceAdd, Nat.reduceBEq, Int.reduceBNe, Int.reduceBEq, Nat.reduceLeDiff, q7, Bool.true_and]
                  refine call_one (S := rightDSpec) rfl _ GaL.rfl ⟨k.to, rfl, ?_⟩
                  simp -dsimp only [Vm.G, List.lookup, Nat.reduceAdd, Nat.reduceBEq, Int.reduceBNe, Int.reduceBEq, Nat.reduceLeDiff, q7, bool_neq, beq_self_eq_true]
                  refine ⟨hBg, ?_⟩
                  repeat' first | rfl | exact True.intro | refine And.intro ?_ ?_
                · rintro s h3 ⟨hBd, e143, d8, e5, e6, e33, e34, e35⟩
                  simp -dsimp only [Vm.G, List.lookup, Nat.reduceAdd, Nat.reduceBEq, Int.reduceBNe, Int.reduceBEq, Nat.reduceLeDiff, q7, e143, d8, e5, e6, e33, e34, e35]
                  refine draw_cont [] (.take 0 (.take 1 (.take 2 (.take 3 (.take 4 (.take 5 (.take 6 (.take 8 (.take 9 (.take 10 (.take 11 (.take 12 (.take 13 (.take 14 (.alt 7 (.alt 15 (.alt 16 (.take 17 (.done)) .stop) .stop) .stop))))))))))))))) (fun s h2 => Both h2 V R g ∧ s 161 = .v (.bool false) ∧ s 5 = .ptr V.iv 0 ∧ s 6 = .ptr R.iv 0 ∧ s 33 = .sl 13 (l.map dodAv) ∧ s 34 = .v (.int .i64 l.length) ∧ s 35 = .v (.int .i64 i)) (by kernel_rfl) (by kernel_rfl) (by kernel_rfl) (by decide) ?_ ?_
                  · clear hq
                    simp -dsimp only [Vm.G, List.lookup, Nat.reduceAdd, Nat.reduceBEq, Int.reduceBNe, Int.reduceBEq, Nat.reduceLeDiff, q7, d8, e5, e6, e33, e34, e35]
                    refine call_one (S := docsAllSpec) rfl _ GaL.rfl ⟨V, g, k.doc.year, k.doc.kind, rfl, hBd.1, by omega, fun kv h4 hsc hln hV4 hs4 => ?_⟩
                    have hB4 := hBd.quiet hV4 hs4
                    clear hV4 hs4
                    simp -dsimp only [Vm.G, List.lookup, Nat.reduceAdd, Nat.reduceBEq, Int.reduceBNe, Int.reduceBEq, Nat.reduceLeDiff, q7, d8, e5, e6, e33, e34, e35]
                    refine call_one (S := rDocsAllSpec) rfl _ GaL.rfl ⟨R, g, k.doc.year, k.doc.kind, rfl, hB4.2.1, by omega, fun kv2 hsc2 hln2 => ?_⟩
                    simp -dsimp only [Vm.G, List.lookup, Nat.reduceAdd, Nat.reduceBEq, Int.reduceBNe, Int.reduceBEq, Nat.reduceLeDiff, q7, d8, e5, e6, e33, e34, e35]
                    refine call_one (S := eqIntSpec) rfl _ GaL.rfl ⟨allD k.doc.year k.doc.kind kv, allD k.doc.year k.doc.kind kv2, Nat.le_trans (List.length_filterMap_le ..) (by omega), rfl, ?_⟩
                    have he : decide (allD k.doc.year k.doc.kind kv = allD k.doc.year k.doc.kind kv2) = true := decide_eq_true (by rw [hsc.same hsc2])
                    simp -dsimp only [Vm.G, List.lookup, Nat.reduceAdd, Nat.reduceBEq, Int.reduceBNe, Int.reduceBEq, Nat.reduceLeDiff, q7, he, d8, e5, e6, e33, e34, e35]
                    refine ⟨hB4, ?_⟩
                    repeat' first | rfl | exact True.intro | refine And.intro ?_ ?_
                  · rintro s h4 ⟨hB4, e161, e5, e6, e33, e34, e35⟩
                    simp -dsimp only [Vm.G, List.lookup, Nat.reduceAdd, Nat.reduceBEq, Int.reduceBNe, Int.reduceBEq, Nat.reduceLeDiff, q7, e161, e5, e6, e33, e34, e35]
                    refine kept_intro ⟨l.length - (i + 1), by omega, _, le_mk [(5, .ptr V.iv 0), (6, .ptr R.iv 0), (33, .sl 13 (l.map dodAv)), (34, .v (.int .i64 l.length)), (35, .v (.int .i64 (i + 1 : Nat)))] ?_, i + 1, g, by omega, hB4, by omega, rfl⟩
                    simp only [List.forall_mem_cons, List.not_mem_nil, false_imp_iff, implies_true, and_true, hw, e5, e6, e33, e34, e35]
                    try simp -dsimp only [Vm.G, List.lookup, Nat.reduceAdd, Nat.reduceBEq, Int.reduceBNe, Int.reduceBEq, Nat.reduceLeDiff, q7, hw, e5, e6, e33, e34, e35]
                    repeat' first | exact Fg.refl _ | exact Fg.nil _ _ _ (by decide) | refine And.intro ?_ ?_
              · simp only [dcCells, Dc.zero]
                simp -dsimp only [Vm.G, List.lookup, Nat.reduceAdd, Nat.reduceBEq, Int.reduceBNe, Int.reduceBEq, Nat.reduceLeDiff, q7]
                refine call_one (S := rDocsGetSpec) rfl _ GaL.rfl ⟨R, g, k.id, rfl, hBg.2.1, by omega, fun d3 l3 hd3 hl63 hdl3 => (by rw [hn2] at hd3; cases hd3), fun hn => ?_⟩
                simp only [dcCells, Dc.zero]
                simp -dsimp only [Vm.G, List.lookup, Nat.reduceAdd, Nat.reduceBEq, Int.reduceBNe, Int.reduceBEq, Nat.reduceLeDiff, q7]
                refine draw_cont [8, 13, 16] (.take 0 (.take 1 (.take 2 (.take 3 (.take 4 (.take 5 (.alt 6 (.take 7 (.take 8 (.take 9 (.take 10 (.take 11 (.take 12 (.take 13 (.take 14 (.take 15 (.take 17 (.alt 16 (.alt 18 (.take 19 (.take 20 (.take 21 (.take 22 (.take 23 (.take 25 (.take 26 (.alt 24 (.alt 27 (.take 28 (.take 29 (.take 30 (.take 31 (.take 32 (.take 34 (.take 35 (.alt 33 (.alt 36 (.take 37 (.take 38 (.done))) .stop) .stop)))))))) .stop) .stop)))))))) .stop) .stop))))))))))) .stop))))))) (fun s h2 => Both h2 V R g ∧ s 143 = .v (.bool false) ∧ s 8 = .eptr [.v (.int .i64 k.op), .v (.int .i64 k.id), .v (.int .i64 k.ln), .v (.int .i64 k.doc.id), .v (.int .i64 k.doc.kind), .v (.int .i64 k.doc.year), .v (.int .i64 k.doc.frm), .v (.int .i64 k.doc.lines), .sl 4 (k.lines.map dlAv), .v (.int .i64 k.to.node), .v (.int .i64 k.to.orig), .v (.int .i64 k.to.liq), .v (.int .i64 k.to.can)] ∧ s 5 = .ptr V.iv 0 ∧ s 6 = .ptr R.iv 0 ∧ s 33 = .sl 13 (l.map dodAv) ∧ s 34 = .v (.int .i64 l.length) ∧ s 35 = .v (.int .i64 i)) (by kernel_rfl) (by kernel_rfl) (by kernel_rfl) (by decide) ?_ ?_
                · clear hq
                  simp -dsimp only [Vm.G, List.lookup, Nat.reduceAdd, Nat.reduceBEq, Int.reduceBNe, Int.reduceBEq, Nat.reduceLeDiff, q7, Bool.true_and]
                  refine eq_agg fd54 rfl ?_
                  simp -dsimp only [Vm.G, List.lookup, Nat.reduceAdd, Nat.reduceBEq, Int.reduceBNe, Int.reduceBEq, Nat.reduceLeDiff, q7, Bool.true_and, Bool.and_self, bool_neq, beq_self_eq_true]
                  refine call_one (S := eqSelfDl) rfl _ (.cons (.nil 4) (.cons (.nil 4) .nil)) ⟨[], by simp, rfl, ?_⟩
                  simp -dsimp only [Vm.G, List.lookup, Nat.reduceAdd, Nat.reduceBEq, Int.reduceBNe, Int.reduceBEq, Nat.reduceLeDiff, q7, Bool.true_and, Bool.and_self, bool_neq, beq_self_eq_true]
                  refine call_one (S := lastSpec) rfl _ GaL.rfl ⟨V, g, rfl, hBg.1, ?_⟩
                  simp -dsimp only [Vm.G, List.lookup, Nat.reduceAdd, Nat.reduceBEq, Int.reduceBNe, Int.reduceBEq, Nat.reduceLeDiff, q7, Bool.true_and]
                  refine call_one (S := rLastSpec) rfl _ GaL.rfl ⟨R, g, 2, rfl, hBg.2.1, by omega, ?_⟩
                  simp -dsimp only [Vm.G, List.lookup, Nat.reduceAdd, Nat.reduceBEq, Int.reduceBNe, Int.reduceBEq, Nat.reduceLeDiff, q7, bne_self_eq_false]
                  refine call_one (S := openDSpec) rfl _ GaL.rfl ⟨k.to, rfl, ?_⟩
                  simp -dsimp only [Vm.G, List.lookup, Nat.reduceAdd, Nat.reduceBEq, Int.reduceBNe, Int.reduceBEq, Nat.reduceLeDiff, q7, Bool.true_and]
                  refine call_one (S := openDSpec) rfl _ GaL.rfl ⟨k.to, rfl, ?_⟩
                  simp -dsimp only [Vm.G, List.lookup, Nat.reduceAdd, Nat.reduceBEq, Int.reduceBNe, Int.reduceBEq, Nat.reduceLeDiff, q7, bne_self_eq_false]
                  refine call_one (S := rightDSpec) rfl _ GaL.rfl ⟨k.to, rfl, ?_⟩
                  simp -dsimp only [Vm.G, List.lookup, Nat.reduceAdd, Nat.reduceBEq, Int.reduceBNe, Int.reduceBEq, Nat.reduceLeDiff, q7, Bool.true_and]
                  refine call_one (S := rightDSpec) rfl _ GaL.rfl ⟨k.to, rfl, ?_⟩
                  simp -dsimp only [Vm.G, List.lookup, Nat.reduceAdd, Nat.reduceBEq, Int.reduceBNe, Int.reduceBEq, Nat.reduceLeDiff, q7, bool_neq, beq_self_eq_true]
                  refine ⟨hBg, ?_⟩
                  repeat' first | rfl | exact True.intro | refine And.intro ?_ ?_
                · rintro s h3 ⟨hBd, e143, d8, e5, e6, e33, e34, e35⟩
                  simp -dsimp only [Vm.G, List.lookup, Nat.reduceAdd, Nat.reduceBEq, Int.reduceBNe, Int.reduceBEq, Nat.reduceLeDiff, q7, e143, d8, e5, e6, e33, e34, e35]
                  refine draw_cont [] (.take 0 (.take 1 (.take 2 (.take 3 (.take 4 (.take 5 (.take 6 (.take 8 (.take 9 (.take 10 (.take 11 (.take 12 (.take 13 (.take 14 (.alt 7 (.alt 15 (.alt 16 (.take 17 (.done)) .stop) .stop) .stop))))))))))))))) (fun s h2 => Both h2 V R g ∧ s 161 = .v (.bool false) ∧ s 5 = .ptr V.iv 0 ∧ s 6 = .ptr R.iv 0 ∧ s 33 = .sl 13 (l.map dodAv) ∧ s 34 = .v (.int .i64 l.length) ∧ s 35 = .v (.int .i64 i)) (by kernel_rfl) (by kernel_rfl) (by kernel_rfl) (by decide) ?_ ?_
                  · clear hq
                    simp -dsimp only [Vm.G, List.lookup, Nat.reduceAdd, Nat.reduceBEq, Int.reduceBNe, Int.reduceBEq, Nat.reduceLeDiff, q7, d8, e5, e6, e33, e34, e35]
                    refine call_one (S := docsAllSpec) rfl _ GaL.rfl ⟨V, g, k.doc.year, k.doc.kind, rfl, hBd.1, by omega, fun kv h4 hsc hln hV4 hs4 => ?_⟩
                    have hB4 := hBd.quiet hV4 hs4
                    clear hV4 hs4
                    simp -dsimp only [Vm.G, List.lookup, Nat.reduceAdd, Nat.reduceBEq, Int.reduceBNe, Int.reduceBEq, Nat.reduceLeDiff, q7, d8, e5, e6, e33, e34, e35]
                    refine call_one (S := rDocsAllSpec) rfl _ GaL.rfl ⟨R, g, k.doc.year, k.doc.kind, rfl, hB4.2.1, by omega, fun kv2 hsc2 hln2 => ?_⟩
                    simp -dsimp only [Vm.G, List.lookup, Nat.reduceAdd, Nat.reduceBEq, Int.reduceBNe, Int.reduceBEq, Nat.reduceLeDiff, q7, d8, e5, e6, e33, e34, e35]
                    refine call_one (S := eqIntSpec) rfl _ GaL.rfl ⟨allD k.doc.year k.doc.kind kv, allD k.doc.year k.doc.kind kv2, Nat.le_trans (List.length_filterMap_le ..) (by omega), rfl, ?_⟩
                    have he : decide (allD k.doc.year k.doc.kind kv = allD k.doc.year k.doc.kind kv2) = true := decide_eq_true (by rw [hsc.same hsc2])
                    simp -dsimp only [Vm.G, List.lookup, Nat.reduceAdd, Nat.reduceBEq, Int.reduceBNe, Int.reduceBEq, Nat.reduceLeDiff, q7, he, d8, e5, e6, e33, e34, e35]
                    refine ⟨hB4, ?_⟩
                    repeat' first | rfl | exact True.intro | refine And.intro ?_ ?_
                  · rintro s h4 ⟨hB4, e161, e5, e6, e33, e34, e35⟩
                    simp -dsimp only [Vm.G, List.lookup, Nat.reduceAdd, Nat.reduceBEq, Int.reduceBNe, Int.reduceBEq, Nat.reduceLeDiff, q7, e161, e5, e6, e33, e34, e35]
                    refine kept_intro ⟨l.length - (i + 1), by omega, _, le_mk [(5, .ptr V.iv 0), (6, .ptr R.iv 0), (33, .sl 13 (l.map dodAv)), (34, .v (.int .i64 l.length)), (35, .v (.int .i64 (i + 1 : Nat)))] ?_, i + 1, g, by omega, hB4, by omega, rfl⟩
                    simp only [List.forall_mem_cons, List.not_mem_nil, false_imp_iff, implies_true, and_true, hw, e5, e6, e33, e34, e35]
                    try simp -dsimp only [Vm.G, List.lookup, Nat.reduceAdd, Nat.reduceBEq, Int.reduceBNe, Int.reduceBEq, Nat.reduceLeDiff, q7, hw, e5, e6, e33, e34, e35]
                    repeat' first | exact Fg.refl _ | exact Fg.nil _ _ _ (by decide) | refine And.intro ?_ ?_
            · simp -dsimp only [Vm.G, List.lookup, Nat.reduceAdd, Nat.reduceBEq, Int.reduceBNe, Int.reduceBEq, Nat.reduceLeDiff, q7, cop]
              refine draw_cont [8] (.take 0 (.take 1 (.take 2 (.take 3 (.take 4 (.take 5 (.take 6 (.take 8 (.take 9 (.take 10 (.take 11 (.take 12 (.take 13 (.take 14 (.alt 7 (.alt 15 (.take 16 (.done)) .stop) .stop))))))))))))))) (fun s h2 => Both h2 V R (docsSet f k.id k.ln k.to).1 ∧ s 88 = .v (.bool false) ∧ s 8 = .eptr [.v (.int .i64 k.op), .v (.int .i64 k.id), .v (.int .i64 k.ln), .v (.int .i64 k.doc.id), .v (.int .i64 k.doc.kind), .v (.int .i64 k.doc.year), .v (.int .i64 k.doc.frm), .v (.int .i64 k.doc.lines), .sl 4 (k.lines.map dlAv), .v (.int .i64 k.to.node), .v (.int .i64 k.to.orig), .v (.int .i64 k.to.liq), .v (.int .i64 k.to.can)] ∧ s 5 = .ptr V.iv 0 ∧ s 6 = .ptr R.iv 0 ∧ s 33 = .sl 13 (l.map dodAv) ∧ s 34 = .v (.int .i64 l.length) ∧ s 35 = .v (.int .i64 i)) (by kernel_rfl) (by kernel_rfl) (by kernel_rfl) (by decide) ?_ ?_
              · clear hq
                simp -dsimp only [Vm.G, List.lookup, Nat.reduceAdd, Nat.reduceBEq, Int.reduceBNe, Int.reduceBEq, Nat.reduceLeDiff, q7]
                refine call_one (S := docsSetSpec) rfl _ GaL.rfl ⟨V, f, k.id, k.ln, k.to, o1, o2, o5, rfl, hB.1, fun h2 g1 g2 => ?_⟩
                simp -dsimp only [Vm.G, List.lookup, Nat.reduceAdd, Nat.reduceBEq, Int.reduceBNe, Int.reduceBEq, Nat.reduceLeDiff, q7]
                refine call_one (S := rDocsSetSpec) rfl _ GaL.rfl ⟨R, f, k.id, k.ln, k.to, o1, o2, o5, rfl, hB.view g1 g2, by omega, fun h3 g3 g4 => ?_⟩
                simp -dsimp only [Vm.G, List.lookup, Nat.reduceAdd, Nat.reduceBEq, Int.reduceBNe, Int.reduceBEq, Nat.reduceLeDiff, q7, bne_self_eq_false]
                refine ⟨hB.ref g1 g3 g4, ?_⟩
                repeat' first | rfl | exact True.intro | refine And.intro ?_ ?_
              · rintro s h2 ⟨hBg, e88, d8, e5, e6, e33, e34, e35⟩
                generalize (docsSet f k.id k.ln k.to).1 = g at hsn hBg
                simp -dsimp only [Vm.G, List.lookup, Nat.reduceAdd, Nat.reduceBEq, Int.reduceBNe, Int.reduceBEq, Nat.reduceLeDiff, q7, e88, d8, e5, e6, e33, e34, e35]
                refine call_one (S := docsGetSpec) rfl _ GaL.rfl ⟨V, g, k.id, rfl, hBg.1, fun d2 l2 hd2 hl6 hdl => ?_, fun hn2 => ?_⟩
                · simp only [dcCells]
                  simp -dsimp only [Vm.G, List.lookup, Nat.reduceAdd, Nat.reduceBEq, Int.reduceBNe, Int.reduceBEq, Nat.reduceLeDiff, q7, d8, e5, e6, e33, e34, e35,]
                  refine call_one (S := rDocsGetSpec) rfl _ GaL.rfl ⟨R, g, k.id, rfl, hBg.2.1, by omega, fun d3 l3 hd3 hl63 hdl3 => ?_, fun hn => by rw [hd2] at hn; cases hn⟩
                  rw [hd2] at hd3
                  cases hd3
                  simp only [dcCells]
                  simp -dsimp only [Vm.G, List.lookup, Nat.reduceAdd, Nat.reduceBEq, Int.reduceBNe, Int.reduceBEq, Nat.reduceLeDiff, q7, d8, e5, e6, e33, e34, e35,]
                  refine draw_cont [13, 16] (.take 0 (.take 1 (.take 2 (.take 3 (.take 4 (.take 5 (.alt 6 (.take 7 (.take 8 (.take 9 (.take 10 (.take 11 (.take 12 (.take 13 (.take 14 (.take 15 (.take 17 (.alt 16 (.alt 18 (.take 19 (.take 20 (.take 21 (.take 22 (.take 23 (.take 25 (.take 26 (.alt 24 (.alt 27 (.take 28 (.take 29 (.take 30 (.take 31 (.take 32 (.take 34 (.take 35 (.alt 33 (.alt 36 (.take 37 (.take 38 (.done))) .stop) .stop)))))))) .stop) .stop)))))))) .stop) .stop))))))))))) .stop))))))) (fun s h2 => Both h2 V R g ∧ s 143 = .v (.bool false) ∧ s 8 = .eptr [.v (.int .i64 k.op), .v (.int .i64 k.id), .v (.int .i64 k.ln), .v (.int .i64 k.doc.id), .v (.int .i64 k.doc.kind), .v (.int .i64 k.doc.year), .v (.int .i64 k.doc.frm), .v (.int .i64 k.doc.lines), .sl 4 (k.lines.map dlAv), .v (.int .i64 k.to.node), .v (.int .i64 k.to.orig), .v (.int .i64 k.to.liq), .v (.int .i64 k.to.can)] ∧ s 5 = .ptr V.iv 0 ∧ s 6 = .ptr R.iv 0 ∧ s 33 = .sl 13 (l.map dodAv) ∧ s 34 = .v (.int .i64 l.length) ∧ s 35 = .v (.int .i64 i)) (by kernel_rfl) (by kernel_rfl) (by kernel_rfl) (by decide) ?_ ?_
                  · clear hq
                    simp -dsimp only [Vm.G, List.lookup, Nat.reduceAdd, Nat.reduceBEq, Int.reduceBNe, Int.reduceBEq, Nat.reduceLeDiff, q7, d8, e5, e6, e33, e34, e35,Bool.true_and]
                    refine eq_agg fd54 rfl ?_
                    simp -dsimp only [Vm.G, List.lookup, Nat.reduceAdd, Nat.reduceBEq, Int.reduceBNe, Int.reduceBEq, Nat.reduceLeDiff, q7, d8, e5, e6, e33, e34, e35,Bool.true_and, Bool.and_self, bool_neq, beq_self_eq_true]
                    refine call_one (S := eqSelfDl) rfl _ GaL.rfl ⟨l2, by omega, rfl, ?_⟩
                    simp -dsimp only [Vm.G, List.lookup, Nat.reduceAdd, Nat.reduceBEq, Int.reduceBNe, Int.reduceBEq, Nat.reduceLeDiff, q7, d8, e5, e6, e33, e34, e35,Bool.true_and, Bool.and_self, bool_neq, beq_self_eq_true]
                    refine call_one (S := lastSpec) rfl _ GaL.rfl ⟨V, g, rfl, hBg.1, ?_⟩
                    simp -dsimp only [Vm.G, List.lookup, Nat.reduceAdd, Nat.reduceBEq, Int.reduceBNe, Int.reduceBEq, Nat.reduceLeDiff, q7, d8, e5, e6, e33, e34, e35,Bool.true_and]
                    refine call_one (S := rLastSpec) rfl _ GaL.rfl ⟨R, g, 2, rfl, hBg.2.1, by omega, ?_⟩
                    simp -dsimp only [Vm.G, List.lookup, Nat.reduceAdd, Nat.reduceBEq, Int.reduceBNe, Int.reduceBEq, Nat.reduceLeDiff, q7, d8, e5, e6, e33, e34, e35,bne_self_eq_false]
                    refine call_one (S := openDSpec) rfl _ GaL.rfl ⟨k.to, rfl, ?_⟩
                    simp -dsimp only [Vm.G, List.lookup, Nat.reduceAdd, Nat.reduceBEq, Int.reduceBNe, Int.reduceBEq, Nat.reduceLeDiff, q7, d8, e5, e6, e33, e34, e35,Bool.true_and]
                    refine call_one (S := openDSpec) rfl _ GaL.rfl ⟨k.to, rfl, ?_⟩
                    simp -dsimp only [Vm.G, List.lookup, Nat.reduceAdd, Nat.reduceBEq, Int.reduceBNe, Int.reduceBEq, Nat.reduceLeDiff, q7, d8, e5, e6, e33, e34, e35,bne_self_eq_false]
                    refine call_one (S := rightDSpec) rfl _ GaL.rfl ⟨k.to, rfl, ?_⟩
                    simp -dsimp only [Vm.G, List.lookup, Nat.reduceAdd, Nat.reduceBEq, Int.reduceBNe, Int.reduceBEq, Nat.reduceLeDiff, q7, d8, e5, e6, e33, e34, e35,Bool.true_and]
                    refine call_one (S := rightDSpec) rfl _ GaL.rfl ⟨k.to, rfl, ?_⟩
                    simp -dsimp only [Vm.G, List.lookup, Nat.reduceAdd, Nat.reduceBEq, Int.reduceBNe, Int.reduceBEq, Nat.reduceLeDiff, q7, d8, e5, e6, e33, e34, e35,bool_neq, beq_self_eq_true]
                    refine ⟨hBg, ?_⟩
                    repeat' first | rfl | exact True.intro | refine And.intro ?_ ?_
                  · rintro s h3 ⟨hBd, e143, d8, e5, e6, e33, e34, e35⟩
                    simp -dsimp only [Vm.G, List.lookup, Nat.reduceAdd, Nat.reduceBEq, Int.reduceBNe, Int.reduceBEq, Nat.reduceLeDiff, q7, e143, d8, e5, e6, e33, e34, e35]
                    refine draw_cont [] (.take 0 (.take 1 (.take 2 (.take 3 (.take 4 (.take 5 (.take 6 (.take 8 (.take 9 (.take 10 (.take 11 (.take 12 (.take 13 (.take 14 (.alt 7 (.alt 15 (.alt 16 (.take 17 (.done)) .stop) .stop) .stop))))))))))))))) (fun s h2 => Both h2 V R g ∧ s 161 = .v (.bool false) ∧ s 5 = .ptr V.iv 0 ∧ s 6 = .ptr R.iv 0 ∧ s 33 = .sl 13 (l.map dodAv) ∧ s 34 = .v (.int .i64 l.length) ∧ s 35 = .v (.int .i64 i)) (by kernel_rfl) (by kernel_rfl) (by kernel_rfl) (by decide) ?_ ?_
                    · clear hq
                      simp -dsimp only [Vm.G, List.lookup, Nat.reduceAdd, Nat.reduceBEq, Int.reduceBNe, Int.reduceBEq, Nat.reduceLeDiff, q7, d8, e5, e6, e33, e34, e35]
                      refine call_one (S := docsAllSpec) rfl _ GaL.rfl ⟨V, g, k.doc.year, k.doc.kind, rfl, hBd.1, by omega, fun kv h4 hsc hln hV4 hs4 => ?_⟩
                      have hB4 := hBd.quiet hV4 hs4
                      clear hV4 hs4
                      simp -dsimp only [Vm.G, List.lookup, Nat.reduceAdd, Nat.reduceBEq, Int.reduceBNe, Int.reduceBEq, Nat.reduceLeDiff, q7, d8, e5, e6, e33, e34, e35]
                      refine call_one (S := rDocsAllSpec) rfl _ GaL.rfl ⟨R, g, k.doc.year, k.doc.kind, rfl, hB4.2.1, by omega, fun kv2 hsc2 hln2 => ?_⟩
                      simp -dsimp only [Vm.G, List.lookup, Nat.reduceAdd, Nat.reduceBEq, Int.reduceBNe, Int.reduceBEq, Nat.reduceLeDiff, q7, d8, e5, e6, e33, e34, e35]
                      refine call_one (S := eqIntSpec) rfl _ GaL.rfl ⟨allD k.doc.year k.doc.kind kv, allD k.doc.year k.doc.kind kv2, Nat.le_trans (List.length_filterMap_le ..) (by omega), rfl, ?_⟩
                      have he : decide (allD k.doc.year k.doc.kind kv = allD k.doc.year k.doc.kind kv2) = true := decide_eq_true (by rw [hsc.same hsc2])
                      simp -dsimp only [Vm.G, List.lookup, Nat.reduceAdd, Nat.reduceBEq, Int.reduceBNe, Int.reduceBEq, Nat.reduceLeDiff, q7, he, d8, e5, e6, e33, e34, e35]
                      refine ⟨hB4, ?_⟩
                      repeat' first | rfl | exact True.intro | refine And.intro ?_ ?_
                    · rintro s h4 ⟨hB4, e161, e5, e6, e33, e34, e35⟩
                      simp -dsimp only [Vm.G, List.lookup, Nat.reduceAdd, Nat.reduceBEq, Int.reduceBNe, Int.reduceBEq, Nat.reduceLeDiff, q7, e161, e5, e6, e33, e34, e35]
                      refine kept_intro ⟨l.length - (i + 1), by omega, _, le_mk [(5, .ptr V.iv 0), (6, .ptr R.iv 0), (33, .sl 13 (l.map dodAv)), (34, .v (.int .i64 l.length)), (35, .v (.int .i64 (i + 1 : Nat)))] ?_, i + 1, g, by omega, hB4, by omega, rfl⟩
                      simp only [List.forall_mem_cons, List.not_mem_nil, false_imp_iff, implies_true, and_true, hw, e5, e6, e33, e34, e35]
                      try simp -dsimp only [Vm.G, List.lookup, Nat.reduceAdd, Nat.reduceBEq, Int.reduceBNe, Int.reduceBEq, Nat.reduceLeDiff, q7, hw, e5, e6, e33, e34, e35]
                      repeat' first | exact Fg.refl _ | exact Fg.nil _ _ _ (by decide) | refine And.intro ?_ ?_
                · simp only [dcCells, Dc.zero]
                  simp -dsimp only [Vm.G, List.lookup, Nat.reduceAdd, Nat.reduceBEq, Int.reduceBNe, Int.reduceBEq, Nat.reduceLeDiff, q7, d8, e5, e6, e33, e34, e35,]
                  refine call_one (S := rDocsGetSpec) rfl _ GaL.rfl ⟨R, g, k.id, rfl, hBg.2.1, by omega, fun d3 l3 hd3 hl63 hdl3 => (by rw [hn2] at hd3; cases hd3), fun hn => ?_⟩
                  simp only [dcCells, Dc.zero]
                  simp -dsimp only [Vm.G, List.lookup, Nat.reduceAdd, Nat.reduceBEq, Int.reduceBNe, Int.reduceBEq, Nat.reduceLeDiff, q7, d8, e5, e6, e33, e34, e35,]
                  refine draw_cont [13, 16] (.take 0 (.take 1 (.take 2 (.take 3 (.take 4 (.take 5 (.alt 6 (.take 7 (.take 8 (.take 9 (.take 10 (.take 11 (.take 12 (.take 13 (.take 14 (.take 15 (.take 17 (.alt 16 (.alt 18 (.take 19 (.take 20 (.take 21 (.take 22 (.take 23 (.take 25 (.take 26 (.alt 24 (.alt 27 (.take 28 (.take 29 (.take 30 (.take 31 (.take 32 (.take 34 (.take 35 (.alt 33 (.alt 36 (.take 37 (.take 38 (.done))) .stop) .stop)))))))) .stop) .stop)))))))) .stop) .stop))))))))))) .stop))))))) (fun s h2 => Both h2 V R g ∧ s 143 = .v (.bool false) ∧ s 8 = .eptr [.v (.int .i64 k.op), .v (.int .i64 k.id), .v (.int .i64 k.ln), .v (.int .i64 k.doc.id), .v (.int .i64 k.doc.kind), .v (.int .i64 k.doc.year), .v (.int .i64 k.doc.frm), .v (.int .i64 k.doc.lines), .sl 4 (k.lines.map dlAv), .v (.int .i64 k.to.node), .v (.int .i64 k.to.orig), .v (.int .i64 k.to.liq), .v (.int .i64 k.to.can)] ∧ s 5 = .ptr V.iv 0 ∧ s 6 = .ptr R.iv 0 ∧ s 33 = .sl 13 (l.map dodAv) ∧ s 34 = .v (.int .i64 l.length) ∧ s 35 = .v (.int .i64 i)) (by kernel_rfl) (by kernel_rfl) (by kernel_rfl) (by decide) ?_ ?_
                  · clear hq
                    simp -dsimp only [Vm.G, List.lookup, Nat.reduceAdd, Nat.reduceBEq, Int.reduceBNe, Int.reduceBEq, Nat.reduceLeDiff, q7, d8, e5, e6, e33, e34, e35,Bool.true_and]
                    refine eq_agg fd54 rfl ?_
                    simp -dsimp only [Vm.G, List.lookup, Nat.reduceAdd, Nat.reduceBEq, Int.reduceBNe, Int.reduceBEq, Nat.reduceLeDiff, q7, d8, e5, e6, e33, e34, e35,Bool.true_and, Bool.and_self, bool_neq, beq_self_eq_true]
                    refine call_one (S := eqSelfDl) rfl _ (.cons (.nil 4) (.cons (.nil 4) .nil)) ⟨[], by simp, rfl, ?_⟩
                    simp -dsimp only [Vm.G, List.lookup, Nat.reduceAdd, Nat.reduceBEq, Int.reduceBNe, Int.reduceBEq, Nat.reduceLeDiff, q7, d8, e5, e6, e33, e34, e35,Bool.true_and, Bool.and_self, bool_neq, beq_self_eq_true]
                    refine call_one (S := lastSpec) rfl _ GaL.rfl ⟨V, g, rfl, hBg.1, ?_⟩
                    simp -dsimp only [Vm.G, List.lookup, Nat.reduceAdd, Nat.reduceBEq, Int.reduceBNe, Int.reduceBEq, Nat.reduceLeDiff, q7, d8, e5, e6, e33, e34, e35,Bool.true_and]
                    refine call_one (S := rLastSpec) rfl _ GaL.rfl ⟨R, g, 2, rfl, hBg.2.1, by omega, ?_⟩
                    simp -dsimp only [Vm.G, List.lookup, Nat.reduceAdd, Nat.reduceBEq, Int.reduceBNe, Int.reduceBEq, Nat.reduceLeDiff, q7, d8, e5, e6, e33, e34, e35,bne_self_eq_false]
                    refine call_one (S := openDSpec) rfl _ GaL.rfl ⟨k.to, rfl, ?_⟩
                    simp -dsimp only [Vm.G, List.lookup, Nat.reduceAdd, Nat.reduceBEq, Int.reduceBNe, Int.reduceBEq, Nat.reduceLeDiff, q7, d8, e5, e6, e33, e34, e35,Bool.true_and]
                    refine call_one (S := openDSpec) rfl _ GaL.rfl ⟨k.to, rfl, ?_⟩
                    simp -dsimp only [Vm.G, List.lookup, Nat.reduceAdd, Nat.reduceBEq, Int.reduceBNe, Int.reduceBEq, Nat.reduceLeDiff, q7, d8, e5, e6, e33, e34, e35,bne_self_eq_false]
                    refine call_one (S := rightDSpec) rfl _ GaL.rfl ⟨k.to, rfl, ?_⟩
                    simp -dsimp only [Vm.G, List.lookup, Nat.reduceAdd, Nat.reduceBEq, Int.reduceBNe, Int.reduceBEq, Nat.reduceLeDiff, q7, d8, e5, e6, e33, e34, e35,Bool.true_and]
                    refine call_one (S := rightDSpec) rfl _ GaL.rfl ⟨k.to, rfl, ?_⟩
                    simp -dsimp only [Vm.G, List.lookup, Nat.reduceAdd, Nat.reduceBEq, Int.reduceBNe, Int.reduceBEq, Nat.reduceLeDiff, q7, d8, e5, e6, e33, e34, e35,bool_neq, beq_self_eq_true]
                    refine ⟨hBg, ?_⟩
                    repeat' first | rfl | exact True.intro | refine And.intro ?_ ?_
                  · rintro s h3 ⟨hBd, e143, d8, e5, e6, e33, e34, e35⟩
                    simp -dsimp only [Vm.G, List.lookup, Nat.reduceAdd, Nat.reduceBEq, Int.reduceBNe, Int.reduceBEq, Nat.reduceLeDiff, q7, e143, d8, e5, e6, e33, e34, e35]
                    refine draw_cont [] (.take 0 (.take 1 (.take 2 (.take 3 (.take 4 (.take 5 (.take 6 (.take 8 (.take 9 (.take 10 (.take 11 (.take 12 (.take 13 (.take 14 (.alt 7 (.alt 15 (.alt 16 (.take 17 (.done)) .stop) .stop) .stop))))))))))))))) (fun s h2 => Both h2 V R g ∧ s 161 = .v (.bool false) ∧ s 5 = .ptr V.iv 0 ∧ s 6 = .ptr R.iv 0 ∧ s 33 = .sl 13 (l.map dodAv) ∧ s 34 = .v (.int .i64 l.length) ∧ s 35 = .v (.int .i64 i)) (by kernel_rfl) (by kernel_rfl) (by kernel_rfl) (by decide) ?_ ?_
                    · clear hq
                      simp -dsimp only [Vm.G, List.lookup, Nat.reduceAdd, Nat.reduceBEq, Int.reduceBNe, Int.reduceBEq, Nat.reduceLeDiff, q7, d8, e5, e6, e33, e34, e35]
                      refine call_one (S := docsAllSpec) rfl _ GaL.rfl ⟨V, g, k.doc.year, k.doc.kind, rfl, hBd.1, by omega, fun kv h4 hsc hln hV4 hs4 => ?_⟩
                      have hB4 := hBd.quiet hV4 hs4
                      clear hV4 hs4
                      simp -dsimp only [Vm.G, List.lookup, Nat.reduceAdd, Nat.reduceBEq, Int.reduceBNe, Int.reduceBEq, Nat.reduceLeDiff, q7, d8, e5, e6, e33, e34, e35]
                      refine call_one (S := rDocsAllSpec) rfl _ GaL.rfl ⟨R, g, k.doc.year, k.doc.kind, rfl, hB4.2.1, by omega, fun kv2 hsc2 hln2 => ?_⟩
                      simp -dsimp only [Vm.G, List.lookup, Nat.reduceAdd, Nat.reduceBEq, Int.reduceBNe, Int.reduceBEq, Nat.reduceLeDiff, q7, d8, e5, e6, e33, e34, e35]
                      refine call_one (S := eqIntSpec) rfl _ GaL.rfl ⟨allD k.doc.year k.doc.kind kv, allD k.doc.year k.doc.kind kv2, Nat.le_trans (List.length_filterMap_le ..) (by omega), rfl, ?_⟩
                      have he : decide (allD k.doc.year k.doc.kind kv = allD k.doc.year k.doc.kind kv2) = true := decide_eq_true (by rw [hsc.same hsc2])
                      simp -dsimp only [Vm.G, List.lookup, Nat.reduceAdd, Nat.reduceBEq, Int.reduceBNe, Int.reduceBEq, Nat.reduceLeDiff, q7, he, d8, e5, e6, e33, e34, e35]
                      refine ⟨hB4, ?_⟩
                      repeat' first | rfl | exact True.intro | refine And.intro ?_ ?_
                    · rintro s h4 ⟨hB4, e161, e5, e6, e33, e34, e35⟩
                      simp -dsimp only [Vm.G, List.lookup, Nat.reduceAdd, Nat.reduceBEq, Int.reduceBNe, Int.reduceBEq, Nat.reduceLeDiff, q7, e161, e5, e6, e33, e34, e35]
                      refine kept_intro ⟨l.length - (i + 1), by omega, _, le_mk [(5, .ptr V.iv 0), (6, .ptr R.iv 0), (33, .sl 13 (l.map dodAv)), (34, .v (.int .i64 l.length)), (35, .v (.int .i64 (i + 1 : Nat)))] ?_, i + 1, g, by omega, hB4, by omega, rfl⟩
                      simp only [List.forall_mem_cons, List.not_mem_nil, false_imp_iff, implies_true, and_true, hw, e5, e6, e33, e34, e35]
                      try simp -dsimp only [Vm.G, List.lookup, Nat.reduceAdd, Nat.reduceBEq, Int.reduceBNe, Int.reduceBEq, Nat.reduceLeDiff, q7, hw, e5, e6, e33, e34, e35]
                      repeat' first | exact Fg.refl _ | exact Fg.nil _ _ _ (by decide) | refine And.intro ?_ ?_
        · have hge : ¬ i < l.length := by have := of_decide_eq_false hcc; omega
          clear hcc
          simp -dsimp only [Vm.G, List.lookup, Nat.reduceAdd, Nat.reduceBEq, Int.reduceBNe, Int.reduceBEq, Nat.reduceLeDiff, q7]
          refine call_one (S := sameSpec) rfl _ GaL.rfl ⟨V, R, f, rfl, hB, by omega, fun h5 hB5 => ?_⟩
          simp -dsimp only [Vm.G, List.lookup, Nat.reduceAdd, Nat.reduceBEq, Int.reduceBNe, Int.reduceBEq, Nat.reduceLeDiff, q7]
          refine call_one (S := trueSpec) rfl _ GaL.rfl ⟨rfl, fun hz => ?_⟩
          simp -dsimp only [Vm.G, List.lookup, Nat.reduceAdd, Nat.reduceBEq, Int.reduceBNe, Int.reduceBEq, Nat.reduceLeDiff, q7]
          exact hq _
  · simp -dsimp only [Vm.G, List.lookup, Nat.reduceAdd, Nat.reduceBEq, Int.reduceBNe, Int.reduceBEq, Nat.reduceLeDiff, q7, cf]
    refine call_one (S := trueSpec) rfl _ GaL.rfl ⟨rfl, fun hz => ?_⟩
    simp -dsimp only [Vm.G, List.lookup, Nat.reduceAdd, Nat.reduceBEq, Int.reduceBNe, Int.reduceBEq, Nat.reduceLeDiff, q7]
    exact hq _
theorem isA_dod {y : AV} (h : IsA (.agg [.int .i64, .int .i64, .int .i64, .agg [.int .i64, .int .i64, .int .i64, .int .i64, .int .i64], .sl (.agg [.int .i64, .int .i64, .int .i64, .int .i64]), .agg [.int .i64, .int .i64, .int .i64, .int .i64]]) y) : ∃ k : Dod, k.ok ∧ y = dodAv k := by
  simp only [IsA, IsAll] at h
  obtain ⟨ys, ⟨y1, r1, rfl, h1, y2, r2, rfl, h2, y3, r3, rfl, h3, y4, r4, rfl, h4, y5, r5, rfl, h5, y6, r6, rfl, h6, rfl⟩, rfl⟩ := h
  obtain ⟨a1, k1, rfl⟩ := isA_int (by simpa only [IsA] using h1)
  obtain ⟨a2, k2, rfl⟩ := isA_int (by simpa only [IsA] using h2)
  obtain ⟨a3, k3, rfl⟩ := isA_int (by simpa only [IsA] using h3)
  obtain ⟨zs, ⟨z1, s1, rfl, q1, z2, s2, rfl, q2, z3, s3, rfl, q3, z4, s4, rfl, q4, z5, s5, rfl, q5, rfl⟩, rfl⟩ := h4
  obtain ⟨b1, m1, rfl⟩ := isA_int (by simpa only [IsA] using q1)
  obtain ⟨b2, m2, rfl⟩ := isA_int (by simpa only [IsA] using q2)
  obtain ⟨b3, m3, rfl⟩ := isA_int (by simpa only [IsA] using q3)
  obtain ⟨b4, m4, rfl⟩ := isA_int (by simpa only [IsA] using q4)
  obtain ⟨b5, m5, rfl⟩ := isA_int (by simpa only [IsA] using q5)
  obtain ⟨ll, -, rfl, hll⟩ := isA_list _ dlAv (fun y hy => isA_dl hy) (by simpa only [IsA, IsAll] using h5)
  obtain ⟨ws, ⟨w1, t1, rfl, p1, w2, t2, rfl, p2, w3, t3, rfl, p3, w4, t4, rfl, p4, rfl⟩, rfl⟩ := h6
  obtain ⟨c1, n1, rfl⟩ := isA_int (by simpa only [IsA] using p1)
  obtain ⟨c2, n2, rfl⟩ := isA_int (by simpa only [IsA] using p2)
  obtain ⟨c3, n3, rfl⟩ := isA_int (by simpa only [IsA] using p3)
  obtain ⟨c4, n4, rfl⟩ := isA_int (by simpa only [IsA] using p4)
  exact ⟨⟨a1, a2, a3, ⟨b1, b2, b3, b4, b5⟩, ll, ⟨c1, c2, c3, c4⟩⟩, ⟨k2, k3, ⟨m1, m2, m3, m4, m5⟩, hll, ⟨n1, n2, n3, n4⟩⟩, rfl⟩
theorem dlive_args {y0 y1 : AV} (i0 : IsA (.sl (.agg [.sl (.int .u8), .sl (.int .u8)])) y0) (i1 : IsA (.sl (.agg [.int .i64, .int .i64, .int .i64, .agg [.int .i64, .int .i64, .int .i64, .int .i64, .int .i64], .sl (.agg [.int .i64, .int .i64, .int .i64, .int .i64]), .agg [.int .i64, .int .i64, .int .i64, .int .i64]])) y1) {Q : AV → Heap → Prop} (hq : ∀ h', Q (.v (.bool true)) h') : dliveSpec [y0, y1] [] Q := by
  obtain ⟨first, hf, rfl, -⟩ := isA_list _ kvAv (fun y hy => isA_kv hy) i0
  obtain ⟨l, hl, rfl, hok⟩ := isA_list _ dodAv (fun y hy => isA_dod hy) i1
  exact ⟨first, l, hf, hl, hok, rfl, hq⟩
end Go.Proofs.Lx
