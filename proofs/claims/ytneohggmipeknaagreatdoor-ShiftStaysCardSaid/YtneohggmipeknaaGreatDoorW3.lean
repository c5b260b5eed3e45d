/- What the functions of the program do: their contracts. -/
import Derived.Test.YtneohggmipeknaaGreatDoorV2
import Derived.Test.YtneohggmipeknaaGreatDoorTFs
import Derived.Test.YtneohggmipeknaaGreatDoorW2
open List renaming lookup → zA, map_append → zIa, map_cons → zJa, map_nil → zLa, length_map → zMa, length_nil → zNa, length_cons → zOa, getElem?_set_ne → zPa, length_filterMap_le → zQa, getElem?_set_self → zRa, length_append → zTa, cons_append → zUa, nil_append → zVa, getElem?_append_right → zWa, length_filter_le → zXa, drop_zero → zIb, getElem_mem → zJb
open Nat renaming reduceAdd → zB, reduceBEq → zC, reduceLeDiff → zF, le_add_right → zSa, le_succ → zYa
open Int renaming reduceBNe → zD, reduceBEq → zE
open Bool renaming true_beq → zG, false_beq → zH, eq_false_or_eq_true → zKa
set_option maxRecDepth 20000
set_option maxHeartbeats 16000000
set_option linter.unusedSimpArgs false
set_option linter.unusedVariables false
namespace Go.Proofs.Lx
open Go.Vm
attribute [local irreducible] awpArr awpBin awpMake awpAppend awpCvX awpStrOf awpBinX awpSlice awpBS awpStore awpAlloc awpCopy awpIndex awpDraw awpIdxX awpFa awpField awpLookup awpUpdate awpDelete awpClear awpRange awpNext awpEntry awpBuild awpClearS awpIdxL awpTree appB awpIdxO eltA treeA
def rShNewSpec : Vm.Spec := fun args h Q => ∃ (R : RId) (f : Fun) (n : Nd), n.ok ∧ args = [.ptr R.iv 0, .agg (ndCells n)] ∧ isRef h R f ∧ f.n ≤ 536870912 ∧ ∀ h', isRef h' R (shNew f n).1 → Same h h' (rFoot R) → Q (.v (.int .i64 (shNew f n).2)) h'
theorem does_rShNew : Does Tryz.prog 35 rShNewSpec := by
 refine dA (good_cons does_rCheck (good_cons does_rClass (good_cons does_rcFund (good_cons does_rtGet (good_cons does_rcObj (good_cons does_rtPath (good_cons does_rtKids (good_cons does_rtGiven (good_cons does_rtPut good_nil))))))))) Tryz.func35 rfl (by decide +kernel) ?_
 rintro args h Q ⟨R, f, n, hok, rfl, hR, hn, hq⟩
 refine ⟨by simp [Tryz.f35], ?_⟩
 unfold shNew shiftNew at hq
 simp only [ndCells]
 simp -dsimp only [Vm.G, zA, zB, zC, zD, zE, zF, q35.1]
 refine call_one (S := rCheckSpec) rfl _ GaL.rfl ⟨R, f, n.year, rfl, hR, hn, ?_⟩
 have h0 := zKa (checkY f n.year != 0)
 rcases h0 with c1 | c1
 · rw [if_pos (by simpa using c1)] at hq
   simp -dsimp only [Vm.G, zA, zB, zC, zD, zE, zF, q35.1, c1]
   exact hq h hR (.refl _ _)
 · rw [if_neg (by simpa using c1)] at hq
   by_cases h1 : n.id < 1
   · have hfe : fairN n = 1 := by unfold fairN; rw [if_pos (.inl h1)]
     rw [hfe, if_pos (by decide)] at hq
     have c2 : decide (n.id < 1) = true := decide_eq_true h1
     simp -dsimp only [Vm.G, zA, zB, zC, zD, zE, zF, q35.1, c1, c2]
     exact hq h hR (.refl _ _)
   · have c2 : decide (n.id < 1) = false := decide_eq_false h1
     by_cases h2 : n.id > 999
     · have hfe : fairN n = 1 := by unfold fairN; rw [if_pos (.inr h2)]
       rw [hfe, if_pos (by decide)] at hq
       have c3 : decide (n.id > 999) = true := decide_eq_true h2
       simp -dsimp only [Vm.G, zA, zB, zC, zD, zE, zF, q35.1, c1, c2, c3]
       exact hq h hR (.refl _ _)
     · have c3 : decide (n.id > 999) = false := decide_eq_false h2
       have hf1 : ¬ (n.id < 1 ∨ n.id > 999) := by omega
       by_cases h3 : n.limit < 0
       · have hfe : fairN n = 1 := by unfold fairN; rw [if_neg hf1, if_pos (.inl h3)]
         rw [hfe, if_pos (by decide)] at hq
         have c4 : decide (n.limit < 0) = true := decide_eq_true h3
         simp -dsimp only [Vm.G, zA, zB, zC, zD, zE, zF, q35.1, c1, c2, c3, c4]
         exact hq h hR (.refl _ _)
       · have c4 : decide (n.limit < 0) = false := decide_eq_false h3
         by_cases h4 : n.limit > 9007199254740992
         · have hfe : fairN n = 1 := by unfold fairN; rw [if_neg hf1, if_pos (.inr h4)]
           rw [hfe, if_pos (by decide)] at hq
           have c5 : decide (n.limit > 9007199254740992) = true := decide_eq_true h4
           simp -dsimp only [Vm.G, zA, zB, zC, zD, zE, zF, q35.1, c1, c2, c3, c4, c5]
           exact hq h hR (.refl _ _)
         · have c5 : decide (n.limit > 9007199254740992) = false := decide_eq_false h4
           have hf2 : ¬ (n.limit < 0 ∨ n.limit > 9007199254740992) := by omega
           simp -dsimp only [Vm.G, zA, zB, zC, zD, zE, zF, q35.1, c1, c2, c3, c4, c5]
           refine call_one (S := classSpec) rfl _ GaL.rfl ⟨n.obj, rfl, ?_⟩
           have h0 := zKa (classOf n.obj != 5)
           rcases h0 with c6 | c6
           · have hfe : fairN n = 1 := by unfold fairN; rw [if_neg hf1, if_neg hf2, if_pos (show classOf n.obj ≠ 5 by simpa using c6)]
             rw [hfe, if_pos (by decide)] at hq
             simp -dsimp only [Vm.G, zA, zB, zC, zD, zE, zF, q35.1, c6]
             exact hq h hR (.refl _ _)
           · have hfe : fairN n = 0 := by unfold fairN; rw [if_neg hf1, if_neg hf2, if_neg (show ¬ classOf n.obj ≠ 5 by simpa using c6)]
             rw [hfe, if_neg (by decide)] at hq
             have hup : knownN f n = true → n.parent ≠ 0 → (nodeAt f n.year n.parent).isSome = true := fun c3 hp => by
               unfold knownN at c3
               simp only [Bool.and_eq_true, Bool.or_eq_true, beq_iff_eq] at c3
               exact c3.2.2.resolve_left hp
             have hke : ∃ b, knownN f n = b := ⟨_, rfl⟩
             rcases hke with ⟨kb, hkb⟩
             rw [hkb] at hq hup
             unfold knownN at hkb
             simp -dsimp only [Vm.G, zA, zB, zC, zD, zE, zF, q35.1, c6]
             refine call_one (S := rcFundSpec) rfl _ GaL.rfl ⟨R, f, n.fund, rfl, hR, hn, fun s hs => ?_, fun hs => ?_⟩
             · rw [hs] at hkb
               simp only [Option.isSome_some, Bool.true_and] at hkb
               simp -dsimp only [Vm.G, zA, zB, zC, zD, zE, zF, q35.1]
               refine call_one (S := rtGetSpec) rfl _ GaL.rfl ⟨R, f, n.year, n.parent, rfl, hR, hn, fun m hm => ?_, fun hm => ?_⟩
               · rw [hm] at hkb
                 simp only [Option.isSome_some, Bool.or_true, Bool.and_true] at hkb
                 simp only [ndCells]
                 simp -dsimp only [Vm.G, zA, zB, zC, zD, zE, zF, q35.1]
                 refine call_one (S := rcObjSpec) rfl _ GaL.rfl ⟨R, f, n.obj, rfl, hR, hn, ?_⟩
                 cases kb
                 · rw [if_pos rfl] at hq
                   simp -dsimp only [Vm.G, zA, zB, zC, zD, zE, zF, q35.1, hkb]
                   exact hq h hR (.refl _ _)
                 · rw [if_neg (by decide)] at hq
                   have hup := hup rfl
                   have h0 := zKa (n.parent != 0)
                   rcases h0 with c7 | c7
                   · simp -dsimp only [Vm.G, zA, zB, zC, zD, zE, zF, q35.1, hkb, c7]
                     refine call_one (S := rtGetSpec) rfl _ GaL.rfl ⟨R, f, n.year, n.id, rfl, hR, hn, fun m hm => ?_, fun hm => ?_⟩
                     · rw [if_pos (by rw [hm]; rfl)] at hq
                       simp only [ndCells]
                       simp -dsimp only [Vm.G, zA, zB, zC, zD, zE, zF, q35.1]
                       exact hq h hR (.refl _ _)
                     · rw [if_neg (by rw [hm]; decide)] at hq
                       simp only [ndCells]
                       unfold belowN at hq
                       have d1 : ¬ n.parent = 0 := by simpa using c7
                       rw [if_neg d1] at hq
                       have hpe := path_hdS (hup d1)
                       rcases hpe with ⟨p, r, hpr⟩
                       simp -dsimp only [Vm.G, zA, zB, zC, zD, zE, zF, q35.1, c7]
                       refine call_one (S := rtPathSpec) rfl _ GaL.rfl ⟨R, f, n.year, n.parent, rfl, hR, hn, ?_⟩
                       generalize pathOf f n.year 8 n.parent = P at hpr hq ⊢
                       by_cases h2 : 8 ≤ P.length
                       · have c2 : decide ((P.length : Int) ≥ 8) = true := decide_eq_true (by omega)
                         rw [if_pos h2, if_pos (by decide)] at hq
                         simp -dsimp only [Vm.G, zA, zB, zC, zD, zE, zF, q35.1, c2, zMa]
                         exact hq h hR (.refl _ _)
                       · have c2 : decide ((P.length : Int) ≥ 8) = false := decide_eq_false (by omega)
                         rw [if_neg h2] at hq
                         have hgl : (P.map ndAv)[0]? = some (ndAv p) := by rw [hpr]; rfl
                         have hhd : P.headD .zero = p := by rw [hpr]; rfl
                         have hPl : 0 < P.length := by rw [hpr]; simp
                         rw [hhd] at hq
                         simp -dsimp only [Vm.G, zA, zB, zC, zD, zE, zF, q35.1, c2, zMa]
                         refine draw_cont [] (.take 0 (.take 1 (.take 3 (.take 7 (.take 10 (.take 11 (.take 12 (.alt 2 (.alt 4 (.alt 5 (.alt 6 (.alt 8 (.take 9 (.alt 13 (.take 14 (.done)) .stop)) (.alt 13 (.alt 8 (.take 9 (.take 14 (.done))) .stop) (.stop))) (.alt 8 (.alt 6 (.take 9 (.alt 13 (.take 14 (.done)) .stop)) (.alt 13 (.alt 6 (.take 9 (.take 14 (.done))) .stop) (.stop))) (.alt 13 (.alt 6 (.alt 8 (.take 9 (.take 14 (.done))) .stop) (.alt 8 (.alt 6 (.take 9 (.take 14 (.done))) .stop) (.stop))) (.stop)))) (.alt 8 (.alt 5 (.alt 6 (.take 9 (.alt 13 (.take 14 (.done)) .stop)) (.alt 13 (.alt 6 (.take 9 (.take 14 (.done))) .stop) (.stop))) (.alt 13 (.alt 5 (.alt 6 (.take 9 (.take 14 (.done))) .stop) .stop) (.stop))) (.alt 13 (.alt 5 (.alt 6 (.alt 8 (.take 9 (.take 14 (.done))) .stop) (.alt 8 (.alt 6 (.take 9 (.take 14 (.done))) .stop) (.stop))) (.alt 8 (.alt 5 (.alt 6 (.take 9 (.take 14 (.done))) .stop) .stop) (.stop))) (.stop)))) (.alt 8 (.alt 4 (.alt 5 (.alt 6 (.take 9 (.alt 13 (.take 14 (.done)) .stop)) (.alt 13 (.alt 6 (.take 9 (.take 14 (.done))) .stop) (.stop))) (.alt 13 (.alt 5 (.alt 6 (.take 9 (.take 14 (.done))) .stop) .stop) (.stop))) (.alt 13 (.alt 4 (.alt 5 (.alt 6 (.take 9 (.take 14 (.done))) .stop) .stop) .stop) (.stop))) (.alt 13 (.alt 4 (.alt 5 (.alt 6 (.alt 8 (.take 9 (.take 14 (.done))) .stop) (.alt 8 (.alt 6 (.take 9 (.take 14 (.done))) .stop) (.stop))) (.alt 8 (.alt 5 (.alt 6 (.take 9 (.take 14 (.done))) .stop) .stop) (.stop))) (.alt 8 (.alt 4 (.alt 5 (.alt 6 (.take 9 (.take 14 (.done))) .stop) .stop) .stop) (.stop))) (.stop)))) (.alt 4 (.alt 2 (.alt 5 (.alt 6 (.alt 8 (.take 9 (.alt 13 (.take 14 (.done)) .stop)) (.alt 13 (.alt 8 (.take 9 (.take 14 (.done))) .stop) (.stop))) (.alt 8 (.alt 6 (.take 9 (.alt 13 (.take 14 (.done)) .stop)) (.alt 13 (.alt 6 (.take 9 (.take 14 (.done))) .stop) (.stop))) (.alt 13 (.alt 6 (.alt 8 (.take 9 (.take 14 (.done))) .stop) (.alt 8 (.alt 6 (.take 9 (.take 14 (.done))) .stop) (.stop))) (.stop)))) (.alt 8 (.alt 5 (.alt 6 (.take 9 (.alt 13 (.take 14 (.done)) .stop)) (.alt 13 (.alt 6 (.take 9 (.take 14 (.done))) .stop) (.stop))) (.alt 13 (.alt 5 (.alt 6 (.take 9 (.take 14 (.done))) .stop) .stop) (.stop))) (.alt 13 (.alt 5 (.alt 6 (.alt 8 (.take 9 (.take 14 (.done))) .stop) (.alt 8 (.alt 6 (.take 9 (.take 14 (.done))) .stop) (.stop))) (.alt 8 (.alt 5 (.alt 6 (.take 9 (.take 14 (.done))) .stop) .stop) (.stop))) (.stop)))) (.alt 8 (.alt 2 (.alt 5 (.alt 6 (.take 9 (.alt 13 (.take 14 (.done)) .stop)) (.alt 13 (.alt 6 (.take 9 (.take 14 (.done))) .stop) (.stop))) (.alt 13 (.alt 5 (.alt 6 (.take 9 (.take 14 (.done))) .stop) .stop) (.stop))) (.alt 13 (.alt 2 (.alt 5 (.alt 6 (.take 9 (.take 14 (.done))) .stop) .stop) .stop) (.stop))) (.alt 13 (.alt 2 (.alt 5 (.alt 6 (.alt 8 (.take 9 (.take 14 (.done))) .stop) (.alt 8 (.alt 6 (.take 9 (.take 14 (.done))) .stop) (.stop))) (.alt 8 (.alt 5 (.alt 6 (.take 9 (.take 14 (.done))) .stop) .stop) (.stop))) (.alt 8 (.alt 2 (.alt 5 (.alt 6 (.take 9 (.take 14 (.done))) .stop) .stop) .stop) (.stop))) (.stop)))) (.alt 8 (.alt 2 (.alt 4 (.alt 5 (.alt 6 (.take 9 (.alt 13 (.take 14 (.done)) .stop)) (.alt 13 (.alt 6 (.take 9 (.take 14 (.done))) .stop) (.stop))) (.alt 13 (.alt 5 (.alt 6 (.take 9 (.take 14 (.done))) .stop) .stop) (.stop))) (.alt 13 (.alt 4 (.alt 5 (.alt 6 (.take 9 (.take 14 (.done))) .stop) .stop) .stop) (.stop))) (.alt 4 (.alt 2 (.alt 5 (.alt 6 (.take 9 (.alt 13 (.take 14 (.done)) .stop)) (.alt 13 (.alt 6 (.take 9 (.take 14 (.done))) .stop) (.stop))) (.alt 13 (.alt 5 (.alt 6 (.take 9 (.take 14 (.done))) .stop) .stop) (.stop))) (.alt 13 (.alt 2 (.alt 5 (.alt 6 (.take 9 (.take 14 (.done))) .stop) .stop) .stop) (.stop))) (.alt 13 (.alt 2 (.alt 4 (.alt 5 (.alt 6 (.take 9 (.take 14 (.done))) .stop) .stop) .stop) (.alt 4 (.alt 2 (.alt 5 (.alt 6 (.take 9 (.take 14 (.done))) .stop) .stop) .stop) (.stop))) (.stop)))) (.alt 13 (.alt 2 (.alt 4 (.alt 5 (.alt 6 (.alt 8 (.take 9 (.take 14 (.done))) .stop) (.alt 8 (.alt 6 (.take 9 (.take 14 (.done))) .stop) (.stop))) (.alt 8 (.alt 5 (.alt 6 (.take 9 (.take 14 (.done))) .stop) .stop) (.stop))) (.alt 8 (.alt 4 (.alt 5 (.alt 6 (.take 9 (.take 14 (.done))) .stop) .stop) .stop) (.stop))) (.alt 4 (.alt 2 (.alt 5 (.alt 6 (.alt 8 (.take 9 (.take 14 (.done))) .stop) (.alt 8 (.alt 6 (.take 9 (.take 14 (.done))) .stop) (.stop))) (.alt 8 (.alt 5 (.alt 6 (.take 9 (.take 14 (.done))) .stop) .stop) (.stop))) (.alt 8 (.alt 2 (.alt 5 (.alt 6 (.take 9 (.take 14 (.done))) .stop) .stop) .stop) (.stop))) (.alt 8 (.alt 2 (.alt 4 (.alt 5 (.alt 6 (.take 9 (.take 14 (.done))) .stop) .stop) .stop) (.alt 4 (.alt 2 (.alt 5 (.alt 6 (.take 9 (.take 14 (.done))) .stop) .stop) .stop) (.stop))) (.stop)))) (.stop)))))))))))) (fun s h' => h' = h ∧ s 114 = .v (.bool (decide (w64 (underF f n.year n.parent + n.limit) > p.limit))) ∧ s 0 = .ptr R.iv 0 ∧ s 3 = .box (ndCells n)) (by kernel_rfl) (by kernel_rfl) (by kernel_rfl) (by decide) ?_ ?_
                         · clear hq
                           simp only [ndCells]
                           repeat' first
                             | with_reducible exact True.intro
                             | simp -dsimp only [Vm.G, zA, zB, zC, zD, zE, zF, q35.1, AV.cells, zIb, zMa, Int.toNat_zero]
                             | refine tree_alt ?_ ?_
                             | refine idxO_intro (by omega) (by simp; omega) ?_
                             | (refine eltA_intro hgl ?_; simp only [ndAv, ndCells])
                             | refine call_one (S := rtKidsSpec) rfl _ GaL.rfl ⟨R, f, n.year, n.parent, rfl, hR, hn, fun l hsc hln => ?_⟩
                             | (have hu := underF_eq hsc n.parent
                                have hkl : (kidsN n.year n.parent l).length ≤ l.length := Nat.le_trans (zXa ..) (zQa ..)
                                refine call_one (S := givenSpec) rfl _ GaL.rfl ⟨kidsN n.year n.parent l, by omega, rfl, ?_⟩
                                rw [← hu])
                             | repeat' first | rfl | exact True.intro | refine And.intro ?_ ?_
                         · rintro s h' ⟨rfl, e114, e0, e3⟩
                           simp only [ndCells] at e3
                           by_cases h3 : w64 (underF f n.year n.parent + n.limit) > p.limit
                           · rw [if_pos h3, if_pos (by decide)] at hq
                             rw [decide_eq_true h3] at e114
                             simp -dsimp only [Vm.G, zA, zB, zC, zD, zE, zF, q35.1, e114]
                             exact hq h' hR (.refl _ _)
                           · rw [if_neg h3, if_neg (by decide)] at hq
                             rw [decide_eq_false h3] at e114
                             simp -dsimp only [Vm.G, zA, zB, zC, zD, zE, zF, q35.1, e114, e0, e3]
                             refine call_one (S := rtPutSpec) rfl _ GaL.rfl ⟨R, f, bareOf n, rfl, bare_ok hok, hR, hn, fun h2 hR2 hs2 => ?_⟩
                             simp -dsimp only [Vm.G, zA, zB, zC, zD, zE, zF, q35.1]
                             exact hq h2 hR2 hs2
                   · simp -dsimp only [Vm.G, zA, zB, zC, zD, zE, zF, q35.1, hkb, c7]
                     refine call_one (S := rtGetSpec) rfl _ GaL.rfl ⟨R, f, n.year, n.id, rfl, hR, hn, fun m hm => ?_, fun hm => ?_⟩
                     · rw [if_pos (by rw [hm]; rfl)] at hq
                       simp only [ndCells]
                       simp -dsimp only [Vm.G, zA, zB, zC, zD, zE, zF, q35.1]
                       exact hq h hR (.refl _ _)
                     · rw [if_neg (by rw [hm]; decide)] at hq
                       simp only [ndCells]
                       unfold belowN at hq
                       have d1 : n.parent = 0 := by simpa using c7
                       rw [if_pos d1, if_neg (by decide)] at hq
                       simp -dsimp only [Vm.G, zA, zB, zC, zD, zE, zF, q35.1, c7]
                       refine call_one (S := rtPutSpec) rfl _ GaL.rfl ⟨R, f, bareOf n, rfl, bare_ok hok, hR, hn, fun h2 hR2 hs2 => ?_⟩
                       simp -dsimp only [Vm.G, zA, zB, zC, zD, zE, zF, q35.1]
                       exact hq h2 hR2 hs2
               · rw [hm] at hkb
                 simp only [Option.isSome_none, Bool.or_false] at hkb
                 simp only [ndCells]
                 simp -dsimp only [Vm.G, zA, zB, zC, zD, zE, zF, q35.1]
                 refine call_one (S := rcObjSpec) rfl _ GaL.rfl ⟨R, f, n.obj, rfl, hR, hn, ?_⟩
                 have h0 := zKa (objOk f n.obj)
                 rcases h0 with c7 | c7
                 · rw [c7, Bool.true_and] at hkb
                   have h0 := zKa (n.parent != 0)
                   rcases h0 with c8 | c8
                   · have : kb = false := by rw [← hkb]; simpa using c8
                     subst this
                     rw [if_pos rfl] at hq
                     simp -dsimp only [Vm.G, zA, zB, zC, zD, zE, zF, q35.1, c7, c8]
                     exact hq h hR (.refl _ _)
                   · have : kb = true := by rw [← hkb]; simpa using c8
                     subst this
                     rw [if_neg (by decide)] at hq
                     have hup := hup rfl
                     simp -dsimp only [Vm.G, zA, zB, zC, zD, zE, zF, q35.1, c7, c8]
                     refine call_one (S := rtGetSpec) rfl _ GaL.rfl ⟨R, f, n.year, n.id, rfl, hR, hn, fun m hm => ?_, fun hm => ?_⟩
                     · rw [if_pos (by rw [hm]; rfl)] at hq
                       simp only [ndCells]
                       simp -dsimp only [Vm.G, zA, zB, zC, zD, zE, zF, q35.1]
                       exact hq h hR (.refl _ _)
                     · rw [if_neg (by rw [hm]; decide)] at hq
                       simp only [ndCells]
                       unfold belowN at hq
                       have d1 : n.parent = 0 := by simpa using c8
                       rw [if_pos d1, if_neg (by decide)] at hq
                       simp -dsimp only [Vm.G, zA, zB, zC, zD, zE, zF, q35.1, c8]
                       refine call_one (S := rtPutSpec) rfl _ GaL.rfl ⟨R, f, bareOf n, rfl, bare_ok hok, hR, hn, fun h2 hR2 hs2 => ?_⟩
                       simp -dsimp only [Vm.G, zA, zB, zC, zD, zE, zF, q35.1]
                       exact hq h2 hR2 hs2
                 · rw [c7, Bool.false_and] at hkb
                   subst hkb
                   rw [if_pos rfl] at hq
                   simp -dsimp only [Vm.G, zA, zB, zC, zD, zE, zF, q35.1, c7]
                   exact hq h hR (.refl _ _)
             · rw [hs] at hkb
               simp only [Option.isSome_none, Bool.false_and] at hkb
               subst hkb
               rw [if_pos rfl] at hq
               simp -dsimp only [Vm.G, zA, zB, zC, zD, zE, zF, q35.1]
               refine call_one (S := rtGetSpec) rfl _ GaL.rfl ⟨R, f, n.year, n.parent, rfl, hR, hn, fun m hm => ?_, fun hm => ?_⟩
               · simp only [ndCells]
                 simp -dsimp only [Vm.G, zA, zB, zC, zD, zE, zF, q35.1]
                 exact hq h hR (.refl _ _)
               · simp only [ndCells]
                 simp -dsimp only [Vm.G, zA, zB, zC, zD, zE, zF, q35.1]
                 exact hq h hR (.refl _ _)
def memOf (mem : List Ent) (k : List UInt8) : Option (List UInt8) := (mget (strK k) mem).map fun e => bytesOf e.val
def memV (h : Heap) (V : VId) (g : Fun) : Prop := ∃ mem clk, h[V.im]? = some (.map mem clk) ∧ (∀ k, g k = memOf mem k) ∧ mem.length ≤ g.n
def wasR (h : Heap) (R : RId) (g : Fun) : Prop := ∃ lw : List KV, h[R.iw]? = some (tabObj lw) ∧ TabIs g lw ∧ lw.length ≤ g.n ∧ ∀ p ∈ lw, p.1.length ≤ 32 ∧ p.2.length ≤ 120
def BothW (h : Heap) (V : VId) (R : RId) (f g : Fun) : Prop := Both h V R f ∧ memV h V g ∧ wasR h R g
theorem memV.same {h h' : Heap} {V : VId} {g : Fun} {fp : List Nat} (hm : memV h V g) (hs : Same h h' fp) (hd : V.im ∉ fp) : memV h' V g := by
 obtain ⟨mem, clk, h1, h2⟩ := hm
 exact ⟨mem, clk, hs.get h1 hd, h2⟩
theorem wasR.same {h h' : Heap} {R : RId} {g : Fun} {fp : List Nat} (hw : wasR h R g) (hs : Same h h' fp) (hd : R.iw ∉ fp) : wasR h' R g := by
 obtain ⟨lw, h1, h2⟩ := hw
 exact ⟨lw, hs.get h1 hd, h2⟩
theorem isView.ne {h : Heap} {V : VId} {f : Fun} (hV : isView h V f) : V.iv ≠ V.ic ∧ V.iv ≠ V.im ∧ V.ic ≠ V.im := by
 obtain ⟨_, _, _, _, _, _, _, h4, _⟩ := hV
 exact h4
theorem isRef.ne {h : Heap} {R : RId} {f : Fun} (hR : isRef h R f) : R.iw ≠ R.inn ∧ R.iw ≠ R.it := by
 obtain ⟨_, _, _, _, _, _, _, h5, _⟩ := hR
 exact h5.2.2.2
theorem BothW.step {h h' h2 : Heap} {V : VId} {R : RId} {f f' g : Fun} (hB : BothW h V R f g) (hV : isView h' V f') (hs : Same h h' [V.ic]) (hR : isRef h2 R f') (hs2 : Same h' h2 (rFoot R)) : BothW h2 V R f' g := by
 obtain ⟨hB, hm, hw⟩ := hB
 refine ⟨hB.ref hV hR hs2, (hm.same hs ?_).same hs2 ?_, (hw.same hs ?_).same hs2 ?_⟩
 · have := hB.1.ne.2.2
   simp [Ne.symm this]
 · have := hB.2.2 V.im (by simp)
   simp [rFoot] at this ⊢
   exact ⟨this.2.2.1, this.2.2.2⟩
 · have := hB.2.2 V.ic (by simp)
   simp at this ⊢
   exact fun e => this.2.1 e.symm
 · have := hB.2.1.ne
   simp [rFoot]
   exact this
theorem BothW.quiet {h h' : Heap} {V : VId} {R : RId} {f g : Fun} (hB : BothW h V R f g) (hV : isView h' V f) (hs : Same h h' []) : BothW h' V R f g :=
 ⟨hB.1.quiet hV hs, hB.2.1.same hs (by simp), hB.2.2.same hs (by simp)⟩
theorem mdel_sub (k : Value) : ∀ es : List Ent, (mdel k es).Sublist es
 | [] => .slnil
 | e :: es => by
   unfold mdel
   split
   · exact List.sublist_cons_self ..
   · exact (mdel_sub k es).cons_cons e
theorem mget_cons (k : List UInt8) (e : Ent) (es : List Ent) {a : List UInt8} (he : e.key = strK a) : mget (strK k) (e :: es) = if k = a then some e else mget (strK k) es := by
 unfold mget
 rw [List.find?_cons, he, keyEq_str]
 by_cases h : k = a
 · rw [if_pos h, h]; simp
 · have : (k == a) = false := by simpa using h
   rw [if_neg h, this]
theorem mget_mdel (q k : List UInt8) : ∀ {es : List Ent}, (∀ e ∈ es, ∃ k, e.key = strK k) → (es.map kOf).Nodup → mget (strK k) (mdel (strK q) es) = if k = q then none else mget (strK k) es
 | [], _, _ => by simp [mdel, mget]
 | e :: es, hk, hn => by
   obtain ⟨a, ha⟩ := hk e (List.mem_cons_self ..)
   have hk' : ∀ e ∈ es, ∃ k, e.key = strK k := fun e he => hk e (List.mem_cons_of_mem _ he)
   rw [zJa, List.nodup_cons] at hn
   rw [kOf_eq ha] at hn
   unfold mdel
   rw [ha, keyEq_str]
   by_cases hq : q = a
   · subst hq
     simp only [beq_self_eq_true, if_true]
     rw [mget_cons k e es ha]
     by_cases hkq : k = q
     · rw [if_pos hkq, hkq]
       cases hg : mget (strK q) es with
       | none => rfl
       | some x => exact absurd ((mget_some hk' hn.2).1 (by rw [hg]; rfl)) hn.1
     · rw [if_neg hkq, if_neg hkq]
   · have h2 : (q == a) = false := by simpa using hq
     simp only [h2, Bool.false_eq_true, if_false]
     rw [mget_cons k e _ ha, mget_cons k e es ha, mget_mdel q k hk' hn.2]
     by_cases hka : k = a
     · have : ¬ k = q := fun e => hq (e ▸ hka)
       rw [if_pos hka, if_neg this, if_pos hka]
     · rw [if_neg hka, if_neg hka]
theorem Born.del {q : Value} {c : Nat} {es : List Ent} (h : Born es c) : Born (mdel q es) c :=
 ⟨⟨h.1.1.sublist ((mdel_sub q es).map _), h.1.2.sublist ((mdel_sub q es).map _)⟩, fun e he => h.2 e ((mdel_sub q es).mem he)⟩
structure Kept (mem0 done mem : List Ent) (clk : Nat) : Prop where
 wf : ∀ e ∈ mem, WfM e
 born : Born mem clk
 len : mem.length ≤ mem0.length + done.length
 short : ∀ e ∈ mem, (kOf e).length ≤ 32
 now : ∀ k, memOf mem k = nowOf done mem0 k
theorem nowOf_snoc {done mem0 : List Ent} {e : Ent} {q : List UInt8} (hq : e.key = strK q) (hk : ∀ e ∈ done, ∃ k, e.key = strK k) (hn : ((done ++ [e]).map kOf).Nodup) (k : List UInt8) :
   nowOf (done ++ [e]) mem0 k = if k = q then shapeOf e.val else nowOf done mem0 k := by
 have h1 : mget (strK k) (done ++ [e]) = (mget (strK k) done).or (mget (strK k) [e]) := by unfold mget; rw [List.find?_append]
 have h2 := mget_cons k e [] hq
 rw [zIa, List.nodup_append] at hn
 have hqd : q ∉ done.map kOf := fun hm => hn.2.2 q hm q (by simp [kOf_eq hq]) rfl
 unfold nowOf
 rw [h1, h2]
 by_cases hkq : k = q
 · subst hkq
   have : mget (strK k) done = none := by
     cases hg : mget (strK k) done with
     | none => rfl
     | some x => exact absurd ((mget_some hk hn.1).1 (by rw [hg]; rfl)) hqd
   rw [this]; simp
 · rw [if_neg hkq, if_neg hkq]
   have : mget (strK k) ([] : List Ent) = none := rfl
   rw [this, Option.or_none]
theorem Kept.del {mem0 done mem : List Ent} {clk : Nat} (h : Kept mem0 done mem clk) {e : Ent} {q : List UInt8} (hq : e.key = strK q) (hs : shapeOf e.val = none) (hk : ∀ e ∈ done, ∃ k, e.key = strK k) (hn : ((done ++ [e]).map kOf).Nodup) :
   Kept mem0 (done ++ [e]) (mdel (strK q) mem) clk := by
 refine ⟨fun x hx => h.wf x ((mdel_sub _ _).mem hx), h.born.del, ?_, fun x hx => h.short x ((mdel_sub _ _).mem hx), fun k => ?_⟩
 · have := (mdel_sub (strK q) mem).length_le
   have := h.len
   rw [zTa]; omega
 · rw [nowOf_snoc hq hk hn k, hs, ← h.now k]
   unfold memOf
   rw [mget_mdel q k (fun e he => (h.wf e he).1) h.born.1.2]
   split <;> rfl
theorem Kept.put {mem0 done mem : List Ent} {clk : Nat} (h : Kept mem0 done mem clk) {e : Ent} {q l : List UInt8} {x : AV} (hq : e.key = strK q) (hs : shapeOf e.val = some l) (hx : isB x l) (hl : l.length ≤ 120) (hq32 : q.length ≤ 32) (hk : ∀ e ∈ done, ∃ k, e.key = strK k) (hn : ((done ++ [e]).map kOf).Nodup) :
   Kept mem0 (done ++ [e]) (mput (strK q) x clk mem) (mclk (strK q) mem clk) := by
 have hkm : ∀ e ∈ mem, ∃ k, e.key = strK k := fun e he => (h.wf e he).1
 refine ⟨fun y hy => ?_, h.born.put hkm, ?_, fun y hy => ?_, fun k => ?_⟩
 · rcases mput_mem hy with hy | ⟨h1, h2⟩
   · exact h.wf y hy
   · exact ⟨⟨q, h1⟩, l, by rw [h2]; exact hx, hl⟩
 · have := mput_length (k := strK q) (v := x) (c := clk) mem
   have := h.len
   rw [zTa]
   simp only [zOa, zNa]
   omega
 · rcases mput_mem hy with hy | ⟨h1, h2⟩
   · exact h.short y hy
   · rw [kOf_eq h1]; exact hq32
 · rw [nowOf_snoc hq hk hn k, hs, ← h.now k]
   unfold memOf
   have hg := mget_mput (v := x) (c := clk) q k hkm
   have e1 : ∀ o : Option Ent, (o.map fun e => bytesOf e.val) = (o.map Ent.val).map bytesOf := fun o => by cases o <;> rfl
   rw [e1, hg]
   by_cases hkq : k = q
   · rw [if_pos hkq, if_pos hkq, Option.map_some, bytesOf_isB hx]
   · rw [if_neg hkq, if_neg hkq, ← e1]
theorem nowOf_perm {a b mem : List Ent} (h : a.Perm b) (hk : ∀ e ∈ a, ∃ k, e.key = strK k) (hn : (a.map kOf).Nodup) (k : List UInt8) : nowOf a mem k = nowOf b mem k := by
 have hk2 : ∀ e ∈ b, ∃ k, e.key = strK k := fun e he => hk e (h.mem_iff.2 he)
 have hn2 : (b.map kOf).Nodup := ((h.map kOf).nodup_iff).1 hn
 have : mget (strK k) a = mget (strK k) b := by
   cases hg : mget (strK k) b with
   | some e =>
     obtain ⟨h1, h2⟩ := (mget_iff hk2 hn2).1 hg
     exact (mget_iff hk hn).2 ⟨h.mem_iff.2 h1, h2⟩
   | none =>
     cases hg2 : mget (strK k) a with
     | none => rfl
     | some e =>
       obtain ⟨h1, h2⟩ := (mget_iff hk hn).1 hg2
       have := (mget_iff hk2 hn2).2 ⟨h.mem_iff.1 h1, h2⟩
       rw [hg] at this; cases this
 unfold nowOf
 rw [this]
def keysSpec : Vm.Spec := fun args h Q => ∃ (ic : Nat) (chg : List Ent) (clk : Nat), args = [.mp ic] ∧ h[ic]? = some (.map chg clk) ∧ (∀ e ∈ chg, WfC e) ∧ Born chg clk ∧ chg.length ≤ 1073741824 ∧ (∀ e ∈ chg, (kOf e).length ≤ 32) ∧
 ∀ l : List (List UInt8), l.length ≤ chg.length → (∀ k ∈ l, k.length ≤ 32) → Q (.own true 9 1 (l.map (vAv strK))) h
theorem does_keys : Does Tryz.prog 85 keysSpec := by
 refine dA (good_cons does_sortS good_nil) Tryz.func85 rfl (by decide +kernel) ?_
 rintro args h Q ⟨ic, chg, clk, rfl, g0, hw, hb, hn, hk32, hq⟩
 refine ⟨by simp [Tryz.f85], ?_⟩
 simp -dsimp only [Vm.G, zA, zB, zC, zD, zE, zF, q85.1]
 refine range_intro mt65 chg clk g0 ?_
 simp -dsimp only [Vm.G, zA, zB, zC, zD, zE, zF, q85.1]
 refine awp_loop (fun m s h' => ∃ done : List Ent, m = (leftE chg (done.map (·.born))).length ∧ done.length + m ≤ chg.length ∧ h' = h ∧ (∀ d ∈ done, d ∈ chg) ∧ (done.map (·.born)).Nodup ∧ s = mk [(3, .own true 9 1 (((done).map kOf).map (vAv strK))), (6, .iter ic clk ((done).map (·.born)) clk)])
   chg.length _ (le_mk _ ?_) ⟨[], (congrArg List.length (List.filter_eq_self.2 fun _ _ => rfl)).symm, by simp, rfl, by simp, by simp, rfl⟩ ?_
 · simp only [Vm.D]
   try simp -dsimp only [Vm.G, zA, zB, zC, zD, zE, zF, q85.1]
   repeat' first | exact .refl _ | exact .nil _ _ _ (by decide) | refine ⟨?_, ?_⟩
 · rintro m s h' ⟨done, rfl, hlen, rfl, hd, hdn, rfl⟩
   simp -dsimp only [Vm.G, zA, zB, zC, zD, zE, zF, q85.1]
   refine next_intro chg clk g0 (fun e he => hb.2 e he) (Nat.le_refl _) (fun hlf => ?_) (fun e he => ?_)
   · have hD : done.Perm chg := seen_all hb.1.1 hd hdn hlf
     have hdl := hD.length_eq
     simp -dsimp only [Vm.G, zA, zB, zC, zD, zE, zF, q85.1]
     refine call_in _ _ _ ?_
     simp -dsimp only [Vm.G, zA, zB, zC, zD, zE, zF, q85.1, callI_eq, ownSl_own, ownSl_alias]
     refine callI_tup (S := orS (sortVSpec strK fun _ => True) sortVNil) (fun xs' => ∃ l' : List (List UInt8), xs' = l'.map (vAv strK) ∧ l'.Perm (done.map kOf)) rfl
       (fun xs' hx => ?_) (fun hx => ⟨?_, fun Q' hq' => .inr ⟨rfl, hq'⟩⟩) (fun c hc Q' hq' => .inl ⟨done.map kOf, _, c, 9, by rw [zMa], rfl, by rw [zMa]; omega, by rw [zMa] at hc; exact hc, fun l' hp _ => hq' _ _ ⟨l', rfl, hp⟩ ?_⟩) (fun xs' hx => ?_)
     · obtain ⟨l', rfl, hp⟩ := hx
       exact ⟨fun x hx => (hp.map _).mem_iff.1 hx, by rw [zMa, zMa, hp.length_eq]⟩
     · have hnil : done.map kOf = [] := List.map_eq_nil_iff.1 hx
       exact ⟨[], rfl, by rw [hnil]⟩
     · rw [List.take_of_length_le]
       rw [flat_v, zMa, Nat.mul_one]
       exact Nat.le_refl _
     · obtain ⟨l', rfl, hp⟩ := hx
       have hll := hp.length_eq
       rw [zMa] at hll
       have hks : ∀ k ∈ l', k.length ≤ 32 := fun k hk => by
         obtain ⟨e, he, rfl⟩ := List.mem_map.1 (hp.mem_iff.1 hk)
         exact hk32 e (hd e he)
       simp -dsimp only [Vm.G, zA, zB, zC, zD, zE, zF, q85.1]
       exact hq l' (by omega) hks
   · obtain ⟨hem, heb⟩ := left_mem he
     obtain ⟨⟨k, hk⟩, x, l, b, hx, hl, hev⟩ := hw e hem
     obtain ⟨hd2, hdn2⟩ := done_more he hd hdn
     have hless := left_less he
     have emap : (done ++ [e]).map (·.born) = done.map (·.born) ++ [e.born] := by simp
     have hkk := kOf_eq hk
     simp -dsimp only [Vm.G, zA, zB, zC, zD, zE, zF, q85.1]
     refine entry_intro chg clk e g0 (find_born hb.1.1 hem) ?_
     simp only [hk, strK]
     simp -dsimp only [Vm.G, zA, zB, zC, zD, zE, zF, q85.1]
     refine bs_intro zr9 (by decide) (by decide) rfl rfl (by simp [solid, AV.cells]) ?_
     simp -dsimp only [Vm.G, zA, zB, zC, zD, zE, zF, q85.1]
     refine app_sl Tryz.underlying134 (by simp [AV.cells]) (by simp only [zMa, zOa, zNa]; omega) ?_
     simp -dsimp only [Vm.G, zA, zB, zC, zD, zE, zF, q85.1]
     refine kept_intro ⟨_, hless, _, le_mk [(3, .own true 9 1 (((done ++ [e]).map kOf).map (vAv strK))), (6, .iter ic clk ((done ++ [e]).map (·.born)) clk)] ?_, done ++ [e], by rw [emap], by rw [zTa]; simp only [zOa, zNa]; omega, rfl, hd2, hdn2, rfl⟩
     simp only [Vm.D, zIa, zJa, zLa, hkk, vAv, strK]
     try simp -dsimp only [Vm.G, zA, zB, zC, zD, zE, zF, q85.1, zIa, zJa, zLa, hkk, vAv, strK]
     repeat' first | exact .refl _ | exact .nil _ _ _ (by decide) | refine ⟨?_, ?_⟩
def wasWSpec : Vm.Spec := fun args h Q => ∃ (iv ic im : Nat) (mem : List Ent) (clk : Nat) (k : List UInt8), args = [.ptr iv 0, .sl 1 (k.map encB)] ∧ h[iv]? = some (vobj ic im) ∧ h[im]? = some (.map mem clk) ∧ (∀ e ∈ mem, WfM e) ∧
 ∀ (l : List UInt8) (b : Bool), Q (.tup [.sl 1 (l.map encB), .v (.bool b)]) h
theorem does_wasW : Does Tryz.prog 86 wasWSpec := by
 refine does_vwas.weak.imp ?_
 rintro args h Q ⟨iv, ic, im, mem, clk, k, rfl, h1, h2, hw, hq⟩
 refine ⟨iv, ic, im, mem, clk, k, rfl, h1, h2, hw, fun e he => ?_, fun he => ?_⟩
 · obtain ⟨-, l, hx, -⟩ := hw e (mget_mem he)
   exact ⟨_, .tup (.cons hx.ga GaL.rfl), hq l true⟩
 · exact ⟨_, .tup (.cons (.nil 1) GaL.rfl), hq [] false⟩
theorem lookup_shape {t kt et : TypeId} {P : Program} {id : Nat} {h : Heap} {K : AV → Prop} {z : Value} (hm : MapT P t kt et .string) (hz : (P.info? et).bind (·.zero) = some z) (hcz : cst z = .agg [.v (.slice none 0 0), .v (.bool false)]) (chg : List Ent) (clk : Nat) (hh : h[id]? = some (.map chg clk)) (hw : ∀ e ∈ chg, WfC e) (k : List UInt8)
   (hK : ∀ x l b, isB x l → l.length ≤ 120 → K (.agg [x, .v (.bool b)])) : awpLookup P t (.mp id) (.v (.string ⟨k.toArray⟩)) false h K := by
 refine lookup_intro hm hz chg clk hh trivial (keys_str fun e he => (hw e he).1) (fun e he => ?_) (fun he => ?_)
 · obtain ⟨-, x, l, b, hx, hl, hev⟩ := hw e (mget_mem he)
   show K e.val
   rw [hev]; exact hK x l b hx hl
 · show K (cst z)
   rw [hcz]; exact hK _ [] false (.inr ⟨rfl, rfl⟩) (by simp)
theorem len_snoc {α : Type} {l : List α} {x : α} {i : Nat} (h : l.length ≤ i) : (l ++ [x]).length ≤ i + 1 := by rw [zTa, List.length_singleton]; omega
def changesSpec : Vm.Spec := fun args h Q => ∃ (V : VId) (f : Fun), args = [.ptr V.iv 0] ∧ isView h V f ∧ f.n ≤ 536870912 ∧ ∀ (p : List KV) (d : List (List UInt8)), Q (.tup [.sl 2 (p.map kvAv), .sl 1 (d.map fun k => .sl 1 (k.map encB))]) h
theorem does_changes : Does Tryz.prog 31 changesSpec := by
 refine dA (good_cons does_vready (good_cons does_keys (good_cons does_wasW (good_cons does_equal (good_cons does_cloneW good_nil))))) Tryz.func31 rfl (by decide +kernel) ?_
 rintro args h Q ⟨V, f, rfl, ⟨chg, clk, mem, clk2, h1, h2, h3, h4, h5, h6, h7, hlen, hk32⟩, hfn, hq⟩
 refine ⟨by simp [Tryz.f31], ?_⟩
 simp -dsimp only [Vm.G, zA, zB, zC, zD, zE, zF, q31.1]
 refine call_one (S := vreadySpec) rfl _ GaL.rfl ⟨V.iv, V.ic, _, rfl, h1, ?_⟩
 simp -dsimp only [Vm.G, zA, zB, zC, zD, zE, zF, q31.1, h1]
 refine call_one (S := keysSpec) rfl _ GaL.rfl ⟨V.ic, chg, clk, rfl, h2, h5.1, h6.1, by omega, fun e he => hk32 e (.inl he), fun ks hkl hks32 => ?_⟩
 simp -dsimp only [Vm.G, zA, zB, zC, zD, zE, zF, q31.1]
 refine awp_loop (fun m s h' => ∃ (i : Nat) (pu : List KV) (de : List (List UInt8)), i + m = ks.length ∧ h' = h ∧ pu.length ≤ i ∧ de.length ≤ i ∧ s = mk [(0, .ptr V.iv 0), (4, .own true 132 2 ((pu).map kvAv)), (5, .own true 123 1 ((de).map fun k => AV.sl 1 (k.map encB))), (18, .own true 9 1 (ks.map (vAv strK))), (19, .v (.int .i64 ks.length)), (20, .v (.int .i64 (i : Nat)))])
   ks.length _ (le_mk _ ?_) ⟨0, [], [], by omega, rfl, by simp, by simp, rfl⟩ ?_
 · simp only [Vm.D]
   try simp -dsimp only [Vm.G, zA, zB, zC, zD, zE, zF, q31.1]
   repeat' first | exact .refl _ | exact .nil _ _ _ (by decide) | refine ⟨?_, ?_⟩
 · rintro m s h' ⟨i, pu, de, hi, rfl, hpu, hde, rfl⟩
   simp -dsimp only [Vm.G, zA, zB, zC, zD, zE, zF, q31.1]
   refine cond_intro (fun hcc => ?_) (fun hcc => ?_)
   · have hlt : i < ks.length := by have := of_decide_eq_true hcc; omega
     have hw2 := hwN i (by omega)
     have hgi : (ks.map (vAv strK))[i]? = some (vAv strK ks[i]) := by rw [List.getElem?_map, List.getElem?_eq_getElem hlt]; rfl
     have hk3 := hks32 ks[i] (zJb hlt)
     generalize ks[i] = k at hgi hk3
     have hks : (ByteArray.mk k.toArray).size ≤ maxLen := by
       have : (ByteArray.mk k.toArray).size = k.length := by simp [ByteArray.size]
       rw [this]; unfold maxLen; omega
     have hkd : (ByteArray.mk k.toArray).data.toList = k := by simp
     simp -dsimp only [Vm.G, zA, zB, zC, zD, zE, zF, q31.1]
     refine idxO_intro (xs := ks.map (vAv strK)) (by omega) (by simp; omega) ?_
     simp -dsimp only [Vm.G, zA, zB, zC, zD, zE, zF, q31.1, Int.toNat_natCast]
     refine eltA_intro (xs := ks.map (vAv strK)) hgi ?_
     simp -dsimp only [Vm.G, zA, zB, zC, zD, zE, zF, q31.1, vAv, strK, AV.cells, zIb, h1]
     refine lookup_shape mt65 z137 (by simp [cst, plain]) chg clk h2 h5.1 k (fun x l b hx hl => ?_)
     have hg := hx.ga
     rcases hx with rfl | ⟨hl0, rfl⟩
     · simp -dsimp only [Vm.G, zA, zB, zC, zD, zE, zF, q31.1]
       refine cvX_bytes bt123 Tryz.underlying9 hks ?_
       simp -dsimp only [Vm.G, zA, zB, zC, zD, zE, zF, q31.1, hkd]
       refine call_one (S := wasWSpec) rfl _ GaL.rfl ⟨V.iv, V.ic, V.im, mem, clk2, k, rfl, h1, h3, h5.2, fun old was => ?_⟩
       cases b
       · cases was
         · simp -dsimp only [Vm.G, zA, zB, zC, zD, zE, zF, q31.1]
           refine cvX_bytes bt123 Tryz.underlying9 hks ?_
           simp -dsimp only [Vm.G, zA, zB, zC, zD, zE, zF, q31.1, hkd]
           refine call_one (S := cloneWSpec) rfl _ (GaL.cons hg .nil) ⟨l, by omega, rfl, ?_, ?_⟩
           · simp -dsimp only [Vm.G, zA, zB, zC, zD, zE, zF, q31.1]
             refine bs_intro zr132 (by decide) (by decide) rfl rfl (by simp [solid, AV.cells]) ?_
             simp -dsimp only [Vm.G, zA, zB, zC, zD, zE, zF, q31.1]
             refine app_sl Tryz.underlying60 (by simp [AV.cells]) (by simp only [zMa, zOa, zNa]; omega) ?_
             simp -dsimp only [Vm.G, zA, zB, zC, zD, zE, zF, q31.1]
             refine kept_intro ⟨ks.length - (i + 1), by omega, _, le_mk [(0, .ptr V.iv 0), (4, .own true 132 2 ((pu ++ [(k, l)]).map kvAv)), (5, .own true 123 1 ((de).map fun k => AV.sl 1 (k.map encB))), (18, .own true 9 1 (ks.map (vAv strK))), (19, .v (.int .i64 ks.length)), (20, .v (.int .i64 (i + 1 : Nat)))] ?_, i + 1, _, _, by omega, rfl, by exact len_snoc hpu, by omega, rfl⟩
             simp only [Vm.D, hw2, zIa, zJa, zLa, kvAv]
             try simp -dsimp only [Vm.G, zA, zB, zC, zD, zE, zF, q31.1, hw2, zIa, zJa, zLa, kvAv]
             repeat' first | exact .refl _ | exact .nil _ _ _ (by decide) | refine ⟨?_, ?_⟩
           · simp -dsimp only [Vm.G, zA, zB, zC, zD, zE, zF, q31.1]
             refine bs_intro zr132 (by decide) (by decide) rfl rfl (by simp [solid, AV.cells]) ?_
             simp -dsimp only [Vm.G, zA, zB, zC, zD, zE, zF, q31.1]
             refine app_sl Tryz.underlying60 (by simp [AV.cells]) (by simp only [zMa, zOa, zNa]; omega) ?_
             simp -dsimp only [Vm.G, zA, zB, zC, zD, zE, zF, q31.1]
             refine kept_intro ⟨ks.length - (i + 1), by omega, _, le_mk [(0, .ptr V.iv 0), (4, .own true 132 2 ((pu ++ [(k, l)]).map kvAv)), (5, .own true 123 1 ((de).map fun k => AV.sl 1 (k.map encB))), (18, .own true 9 1 (ks.map (vAv strK))), (19, .v (.int .i64 ks.length)), (20, .v (.int .i64 (i + 1 : Nat)))] ?_, i + 1, _, _, by omega, rfl, by exact len_snoc hpu, by omega, rfl⟩
             simp only [Vm.D, hw2, zIa, zJa, zLa, kvAv]
             try simp -dsimp only [Vm.G, zA, zB, zC, zD, zE, zF, q31.1, hw2, zIa, zJa, zLa, kvAv]
             repeat' first | exact .refl _ | exact .nil _ _ _ (by decide) | refine ⟨?_, ?_⟩
         · simp -dsimp only [Vm.G, zA, zB, zC, zD, zE, zF, q31.1]
           refine call_one (S := equalSpec) rfl _ (GaL.cons (.refl _) (GaL.cons hg .nil)) ⟨old, _, rfl, ?_⟩
           have he := zKa (old == l)
           rcases he with c | c
           · simp -dsimp only [Vm.G, zA, zB, zC, zD, zE, zF, q31.1, c]
             refine kept_intro ⟨ks.length - (i + 1), by omega, _, le_mk [(0, .ptr V.iv 0), (4, .own true 132 2 ((pu).map kvAv)), (5, .own true 123 1 ((de).map fun k => AV.sl 1 (k.map encB))), (18, .own true 9 1 (ks.map (vAv strK))), (19, .v (.int .i64 ks.length)), (20, .v (.int .i64 (i + 1 : Nat)))] ?_, i + 1, _, _, by omega, rfl, by omega, by omega, rfl⟩
             simp only [Vm.D, hw2, zIa, zJa, zLa, kvAv]
             try simp -dsimp only [Vm.G, zA, zB, zC, zD, zE, zF, q31.1, hw2, zIa, zJa, zLa, kvAv]
             repeat' first | exact .refl _ | exact .nil _ _ _ (by decide) | refine ⟨?_, ?_⟩
           · simp -dsimp only [Vm.G, zA, zB, zC, zD, zE, zF, q31.1, c]
             refine cvX_bytes bt123 Tryz.underlying9 hks ?_
             simp -dsimp only [Vm.G, zA, zB, zC, zD, zE, zF, q31.1, hkd]
             refine call_one (S := cloneWSpec) rfl _ (GaL.cons hg .nil) ⟨l, by omega, rfl, ?_, ?_⟩
             · simp -dsimp only [Vm.G, zA, zB, zC, zD, zE, zF, q31.1]
               refine bs_intro zr132 (by decide) (by decide) rfl rfl (by simp [solid, AV.cells]) ?_
               simp -dsimp only [Vm.G, zA, zB, zC, zD, zE, zF, q31.1]
               refine app_sl Tryz.underlying60 (by simp [AV.cells]) (by simp only [zMa, zOa, zNa]; omega) ?_
               simp -dsimp only [Vm.G, zA, zB, zC, zD, zE, zF, q31.1]
               refine kept_intro ⟨ks.length - (i + 1), by omega, _, le_mk [(0, .ptr V.iv 0), (4, .own true 132 2 ((pu ++ [(k, l)]).map kvAv)), (5, .own true 123 1 ((de).map fun k => AV.sl 1 (k.map encB))), (18, .own true 9 1 (ks.map (vAv strK))), (19, .v (.int .i64 ks.length)), (20, .v (.int .i64 (i + 1 : Nat)))] ?_, i + 1, _, _, by omega, rfl, by exact len_snoc hpu, by omega, rfl⟩
               simp only [Vm.D, hw2, zIa, zJa, zLa, kvAv]
               try simp -dsimp only [Vm.G, zA, zB, zC, zD, zE, zF, q31.1, hw2, zIa, zJa, zLa, kvAv]
               repeat' first | exact .refl _ | exact .nil _ _ _ (by decide) | refine ⟨?_, ?_⟩
             · simp -dsimp only [Vm.G, zA, zB, zC, zD, zE, zF, q31.1]
               refine bs_intro zr132 (by decide) (by decide) rfl rfl (by simp [solid, AV.cells]) ?_
               simp -dsimp only [Vm.G, zA, zB, zC, zD, zE, zF, q31.1]
               refine app_sl Tryz.underlying60 (by simp [AV.cells]) (by simp only [zMa, zOa, zNa]; omega) ?_
               simp -dsimp only [Vm.G, zA, zB, zC, zD, zE, zF, q31.1]
               refine kept_intro ⟨ks.length - (i + 1), by omega, _, le_mk [(0, .ptr V.iv 0), (4, .own true 132 2 ((pu ++ [(k, l)]).map kvAv)), (5, .own true 123 1 ((de).map fun k => AV.sl 1 (k.map encB))), (18, .own true 9 1 (ks.map (vAv strK))), (19, .v (.int .i64 ks.length)), (20, .v (.int .i64 (i + 1 : Nat)))] ?_, i + 1, _, _, by omega, rfl, by exact len_snoc hpu, by omega, rfl⟩
               simp only [Vm.D, hw2, zIa, zJa, zLa, kvAv]
               try simp -dsimp only [Vm.G, zA, zB, zC, zD, zE, zF, q31.1, hw2, zIa, zJa, zLa, kvAv]
               repeat' first | exact .refl _ | exact .nil _ _ _ (by decide) | refine ⟨?_, ?_⟩
       · cases was
         · simp -dsimp only [Vm.G, zA, zB, zC, zD, zE, zF, q31.1]
           refine kept_intro ⟨ks.length - (i + 1), by omega, _, le_mk [(0, .ptr V.iv 0), (4, .own true 132 2 ((pu).map kvAv)), (5, .own true 123 1 ((de).map fun k => AV.sl 1 (k.map encB))), (18, .own true 9 1 (ks.map (vAv strK))), (19, .v (.int .i64 ks.length)), (20, .v (.int .i64 (i + 1 : Nat)))] ?_, i + 1, _, _, by omega, rfl, by omega, by omega, rfl⟩
           simp only [Vm.D, hw2, zIa, zJa, zLa, kvAv]
           try simp -dsimp only [Vm.G, zA, zB, zC, zD, zE, zF, q31.1, hw2, zIa, zJa, zLa, kvAv]
           repeat' first | exact .refl _ | exact .nil _ _ _ (by decide) | refine ⟨?_, ?_⟩
         · simp -dsimp only [Vm.G, zA, zB, zC, zD, zE, zF, q31.1]
           refine cvX_bytes bt123 Tryz.underlying9 hks ?_
           simp -dsimp only [Vm.G, zA, zB, zC, zD, zE, zF, q31.1, hkd]
           refine bs_intro zr123 (by decide) (by decide) rfl rfl (by simp [solid, AV.cells]) ?_
           simp -dsimp only [Vm.G, zA, zB, zC, zD, zE, zF, q31.1]
           refine app_sl Tryz.underlying61 (by simp [AV.cells]) (by simp only [zMa, zOa, zNa]; omega) ?_
           simp -dsimp only [Vm.G, zA, zB, zC, zD, zE, zF, q31.1]
           refine kept_intro ⟨ks.length - (i + 1), by omega, _, le_mk [(0, .ptr V.iv 0), (4, .own true 132 2 ((pu).map kvAv)), (5, .own true 123 1 ((de ++ [k]).map fun k => AV.sl 1 (k.map encB))), (18, .own true 9 1 (ks.map (vAv strK))), (19, .v (.int .i64 ks.length)), (20, .v (.int .i64 (i + 1 : Nat)))] ?_, i + 1, _, _, by omega, rfl, by omega, by exact len_snoc hde, rfl⟩
           simp only [Vm.D, hw2, zIa, zJa, zLa, kvAv]
           try simp -dsimp only [Vm.G, zA, zB, zC, zD, zE, zF, q31.1, hw2, zIa, zJa, zLa, kvAv]
           repeat' first | exact .refl _ | exact .nil _ _ _ (by decide) | refine ⟨?_, ?_⟩
     · simp -dsimp only [Vm.G, zA, zB, zC, zD, zE, zF, q31.1]
       refine cvX_bytes bt123 Tryz.underlying9 hks ?_
       simp -dsimp only [Vm.G, zA, zB, zC, zD, zE, zF, q31.1, hkd]
       refine call_one (S := wasWSpec) rfl _ GaL.rfl ⟨V.iv, V.ic, V.im, mem, clk2, k, rfl, h1, h3, h5.2, fun old was => ?_⟩
       cases b
       · cases was
         · simp -dsimp only [Vm.G, zA, zB, zC, zD, zE, zF, q31.1]
           refine cvX_bytes bt123 Tryz.underlying9 hks ?_
           simp -dsimp only [Vm.G, zA, zB, zC, zD, zE, zF, q31.1, hkd]
           refine call_one (S := cloneWSpec) rfl _ (GaL.cons hg .nil) ⟨l, by omega, rfl, ?_, ?_⟩
           · simp -dsimp only [Vm.G, zA, zB, zC, zD, zE, zF, q31.1]
             refine bs_intro zr132 (by decide) (by decide) rfl rfl (by simp [solid, AV.cells]) ?_
             simp -dsimp only [Vm.G, zA, zB, zC, zD, zE, zF, q31.1]
             refine app_sl Tryz.underlying60 (by simp [AV.cells]) (by simp only [zMa, zOa, zNa]; omega) ?_
             simp -dsimp only [Vm.G, zA, zB, zC, zD, zE, zF, q31.1]
             refine kept_intro ⟨ks.length - (i + 1), by omega, _, le_mk [(0, .ptr V.iv 0), (4, .own true 132 2 ((pu ++ [(k, l)]).map kvAv)), (5, .own true 123 1 ((de).map fun k => AV.sl 1 (k.map encB))), (18, .own true 9 1 (ks.map (vAv strK))), (19, .v (.int .i64 ks.length)), (20, .v (.int .i64 (i + 1 : Nat)))] ?_, i + 1, _, _, by omega, rfl, by exact len_snoc hpu, by omega, rfl⟩
             simp only [Vm.D, hw2, zIa, zJa, zLa, kvAv]
             try simp -dsimp only [Vm.G, zA, zB, zC, zD, zE, zF, q31.1, hw2, zIa, zJa, zLa, kvAv]
             repeat' first | exact .refl _ | exact .nil _ _ _ (by decide) | refine ⟨?_, ?_⟩
           · simp -dsimp only [Vm.G, zA, zB, zC, zD, zE, zF, q31.1]
             refine bs_intro zr132 (by decide) (by decide) rfl rfl (by simp [solid, AV.cells]) ?_
             simp -dsimp only [Vm.G, zA, zB, zC, zD, zE, zF, q31.1]
             refine app_sl Tryz.underlying60 (by simp [AV.cells]) (by simp only [zMa, zOa, zNa]; omega) ?_
             simp -dsimp only [Vm.G, zA, zB, zC, zD, zE, zF, q31.1]
             refine kept_intro ⟨ks.length - (i + 1), by omega, _, le_mk [(0, .ptr V.iv 0), (4, .own true 132 2 ((pu ++ [(k, l)]).map kvAv)), (5, .own true 123 1 ((de).map fun k => AV.sl 1 (k.map encB))), (18, .own true 9 1 (ks.map (vAv strK))), (19, .v (.int .i64 ks.length)), (20, .v (.int .i64 (i + 1 : Nat)))] ?_, i + 1, _, _, by omega, rfl, by exact len_snoc hpu, by omega, rfl⟩
             simp only [Vm.D, hw2, zIa, zJa, zLa, kvAv]
             try simp -dsimp only [Vm.G, zA, zB, zC, zD, zE, zF, q31.1, hw2, zIa, zJa, zLa, kvAv]
             repeat' first | exact .refl _ | exact .nil _ _ _ (by decide) | refine ⟨?_, ?_⟩
         · simp -dsimp only [Vm.G, zA, zB, zC, zD, zE, zF, q31.1]
           refine call_one (S := equalSpec) rfl _ (GaL.cons (.refl _) (GaL.cons hg .nil)) ⟨old, _, rfl, ?_⟩
           have he := zKa (old == l)
           rcases he with c | c
           · simp -dsimp only [Vm.G, zA, zB, zC, zD, zE, zF, q31.1, c]
             refine kept_intro ⟨ks.length - (i + 1), by omega, _, le_mk [(0, .ptr V.iv 0), (4, .own true 132 2 ((pu).map kvAv)), (5, .own true 123 1 ((de).map fun k => AV.sl 1 (k.map encB))), (18, .own true 9 1 (ks.map (vAv strK))), (19, .v (.int .i64 ks.length)), (20, .v (.int .i64 (i + 1 : Nat)))] ?_, i + 1, _, _, by omega, rfl, by omega, by omega, rfl⟩
             simp only [Vm.D, hw2, zIa, zJa, zLa, kvAv]
             try simp -dsimp only [Vm.G, zA, zB, zC, zD, zE, zF, q31.1, hw2, zIa, zJa, zLa, kvAv]
             repeat' first | exact .refl _ | exact .nil _ _ _ (by decide) | refine ⟨?_, ?_⟩
           · simp -dsimp only [Vm.G, zA, zB, zC, zD, zE, zF, q31.1, c]
             refine cvX_bytes bt123 Tryz.underlying9 hks ?_
             simp -dsimp only [Vm.G, zA, zB, zC, zD, zE, zF, q31.1, hkd]
             refine call_one (S := cloneWSpec) rfl _ (GaL.cons hg .nil) ⟨l, by omega, rfl, ?_, ?_⟩
             · simp -dsimp only [Vm.G, zA, zB, zC, zD, zE, zF, q31.1]
               refine bs_intro zr132 (by decide) (by decide) rfl rfl (by simp [solid, AV.cells]) ?_
               simp -dsimp only [Vm.G, zA, zB, zC, zD, zE, zF, q31.1]
               refine app_sl Tryz.underlying60 (by simp [AV.cells]) (by simp only [zMa, zOa, zNa]; omega) ?_
               simp -dsimp only [Vm.G, zA, zB, zC, zD, zE, zF, q31.1]
               refine kept_intro ⟨ks.length - (i + 1), by omega, _, le_mk [(0, .ptr V.iv 0), (4, .own true 132 2 ((pu ++ [(k, l)]).map kvAv)), (5, .own true 123 1 ((de).map fun k => AV.sl 1 (k.map encB))), (18, .own true 9 1 (ks.map (vAv strK))), (19, .v (.int .i64 ks.length)), (20, .v (.int .i64 (i + 1 : Nat)))] ?_, i + 1, _, _, by omega, rfl, by exact len_snoc hpu, by omega, rfl⟩
               simp only [Vm.D, hw2, zIa, zJa, zLa, kvAv]
               try simp -dsimp only [Vm.G, zA, zB, zC, zD, zE, zF, q31.1, hw2, zIa, zJa, zLa, kvAv]
               repeat' first | exact .refl _ | exact .nil _ _ _ (by decide) | refine ⟨?_, ?_⟩
             · simp -dsimp only [Vm.G, zA, zB, zC, zD, zE, zF, q31.1]
               refine bs_intro zr132 (by decide) (by decide) rfl rfl (by simp [solid, AV.cells]) ?_
               simp -dsimp only [Vm.G, zA, zB, zC, zD, zE, zF, q31.1]
               refine app_sl Tryz.underlying60 (by simp [AV.cells]) (by simp only [zMa, zOa, zNa]; omega) ?_
               simp -dsimp only [Vm.G, zA, zB, zC, zD, zE, zF, q31.1]
               refine kept_intro ⟨ks.length - (i + 1), by omega, _, le_mk [(0, .ptr V.iv 0), (4, .own true 132 2 ((pu ++ [(k, l)]).map kvAv)), (5, .own true 123 1 ((de).map fun k => AV.sl 1 (k.map encB))), (18, .own true 9 1 (ks.map (vAv strK))), (19, .v (.int .i64 ks.length)), (20, .v (.int .i64 (i + 1 : Nat)))] ?_, i + 1, _, _, by omega, rfl, by exact len_snoc hpu, by omega, rfl⟩
               simp only [Vm.D, hw2, zIa, zJa, zLa, kvAv]
               try simp -dsimp only [Vm.G, zA, zB, zC, zD, zE, zF, q31.1, hw2, zIa, zJa, zLa, kvAv]
               repeat' first | exact .refl _ | exact .nil _ _ _ (by decide) | refine ⟨?_, ?_⟩
       · cases was
         · simp -dsimp only [Vm.G, zA, zB, zC, zD, zE, zF, q31.1]
           refine kept_intro ⟨ks.length - (i + 1), by omega, _, le_mk [(0, .ptr V.iv 0), (4, .own true 132 2 ((pu).map kvAv)), (5, .own true 123 1 ((de).map fun k => AV.sl 1 (k.map encB))), (18, .own true 9 1 (ks.map (vAv strK))), (19, .v (.int .i64 ks.length)), (20, .v (.int .i64 (i + 1 : Nat)))] ?_, i + 1, _, _, by omega, rfl, by omega, by omega, rfl⟩
           simp only [Vm.D, hw2, zIa, zJa, zLa, kvAv]
           try simp -dsimp only [Vm.G, zA, zB, zC, zD, zE, zF, q31.1, hw2, zIa, zJa, zLa, kvAv]
           repeat' first | exact .refl _ | exact .nil _ _ _ (by decide) | refine ⟨?_, ?_⟩
         · simp -dsimp only [Vm.G, zA, zB, zC, zD, zE, zF, q31.1]
           refine cvX_bytes bt123 Tryz.underlying9 hks ?_
           simp -dsimp only [Vm.G, zA, zB, zC, zD, zE, zF, q31.1, hkd]
           refine bs_intro zr123 (by decide) (by decide) rfl rfl (by simp [solid, AV.cells]) ?_
           simp -dsimp only [Vm.G, zA, zB, zC, zD, zE, zF, q31.1]
           refine app_sl Tryz.underlying61 (by simp [AV.cells]) (by simp only [zMa, zOa, zNa]; omega) ?_
           simp -dsimp only [Vm.G, zA, zB, zC, zD, zE, zF, q31.1]
           refine kept_intro ⟨ks.length - (i + 1), by omega, _, le_mk [(0, .ptr V.iv 0), (4, .own true 132 2 ((pu).map kvAv)), (5, .own true 123 1 ((de ++ [k]).map fun k => AV.sl 1 (k.map encB))), (18, .own true 9 1 (ks.map (vAv strK))), (19, .v (.int .i64 ks.length)), (20, .v (.int .i64 (i + 1 : Nat)))] ?_, i + 1, _, _, by omega, rfl, by omega, by exact len_snoc hde, rfl⟩
           simp only [Vm.D, hw2, zIa, zJa, zLa, kvAv]
           try simp -dsimp only [Vm.G, zA, zB, zC, zD, zE, zF, q31.1, hw2, zIa, zJa, zLa, kvAv]
           repeat' first | exact .refl _ | exact .nil _ _ _ (by decide) | refine ⟨?_, ?_⟩
   · have hge : ¬ i < ks.length := by have := of_decide_eq_false hcc; omega
     simp -dsimp only [Vm.G, zA, zB, zC, zD, zE, zF, q31.1]
     exact hq pu de
theorem heap_set_same {h : Heap} {i : Nat} {x : AObj} (hx : h[i]? = some x) : h.set i x = h := by
 apply List.ext_getElem?
 intro j
 rw [List.getElem?_set]
 split
 · rename_i e; subst e
   split
   · exact hx.symm
   · rename_i hn; exact absurd (get_lt hx) hn
 · rfl
theorem Kept.perm {mem0 done chg mem : List Ent} {clk : Nat} (h : Kept mem0 done mem clk) (hp : done.Perm chg) (hk : ∀ e ∈ chg, ∃ k, e.key = strK k) (hn : (chg.map kOf).Nodup) : Kept mem0 chg mem clk :=
 ⟨h.wf, h.born, by have := hp.length_eq; have := h.len; omega, h.short, fun k => by
   rw [h.now k]
   exact nowOf_perm hp (fun e he => hk e (hp.mem_iff.1 he)) ((hp.map kOf).nodup_iff.2 hn) k⟩
def keepSpec : Vm.Spec := fun args h Q => ∃ (V : VId) (chg mem : List Ent) (clk clk2 : Nat), args = [.ptr V.iv 0] ∧ h[V.iv]? = some (vobj V.ic V.im) ∧ h[V.ic]? = some (.map chg clk) ∧ h[V.im]? = some (.map mem clk2) ∧ (V.iv ≠ V.im ∧ V.ic ≠ V.im) ∧ ((∀ e ∈ chg, WfC e) ∧ ∀ e ∈ mem, WfM e) ∧ (Born chg clk ∧ Born mem clk2) ∧
 (∀ e, e ∈ chg ∨ e ∈ mem → (kOf e).length ≤ 32) ∧ ∀ mem' clk', Kept mem chg mem' clk' → Q (.tup []) (h.set V.im (.map mem' clk'))
theorem does_keep : Does Tryz.prog 32 keepSpec := by
 refine dA good_nil Tryz.func32 rfl (by decide +kernel) ?_
 rintro args h Q ⟨V, chg, mem, clk, clk2, rfl, h1, h2, h3, h4, h5, h6, hk32, hq⟩
 refine ⟨by simp [Tryz.f32], ?_⟩
 simp -dsimp only [Vm.G, zA, zB, zC, zD, zE, zF, q32.1, h1]
 refine range_intro mt65 chg clk h2 ?_
 simp -dsimp only [Vm.G, zA, zB, zC, zD, zE, zF, q32.1]
 refine awp_loop (fun m s h' => ∃ (done me : List Ent) (ck : Nat), m = (leftE chg (done.map (·.born))).length ∧ done.length + m ≤ chg.length ∧ Kept mem done me ck ∧ h' = h.set V.im (.map me ck) ∧ (∀ d ∈ done, d ∈ chg) ∧ (done.map (·.born)).Nodup ∧ s = mk [(0, .ptr V.iv 0), (8, .iter V.ic clk ((done).map (·.born)) clk)])
   chg.length _ (le_mk _ ?_) ⟨[], mem, clk2, (congrArg List.length (List.filter_eq_self.2 fun _ _ => rfl)).symm, by simp, ⟨h5.2, h6.2, by simp, fun e he => hk32 e (.inr he), fun k => rfl⟩, (heap_set_same h3).symm, by simp, by simp, rfl⟩ ?_
 · simp only [Vm.D]
   try simp -dsimp only [Vm.G, zA, zB, zC, zD, zE, zF, q32.1]
   repeat' first | exact .refl _ | exact .nil _ _ _ (by decide) | refine ⟨?_, ?_⟩
 · rintro m s h' ⟨done, me, ck, rfl, hlen, hK, hh, hd, hdn, rfl⟩
   have g1 : h'[V.iv]? = some (vobj V.ic V.im) := by rw [hh, zPa h4.1.symm]; exact h1
   have g2 : h'[V.ic]? = some (.map chg clk) := by rw [hh, zPa h4.2.symm]; exact h2
   have g3 : h'[V.im]? = some (.map me ck) := by rw [hh, zRa (get_lt h3)]
   simp -dsimp only [Vm.G, zA, zB, zC, zD, zE, zF, q32.1]
   refine next_intro chg clk g2 (fun e he => h6.1.2 e he) (Nat.le_refl _) (fun hlf => ?_) (fun e he => ?_)
   · have hD : done.Perm chg := seen_all h6.1.1.1 hd hdn hlf
     simp -dsimp only [Vm.G, zA, zB, zC, zD, zE, zF, q32.1]
     rw [hh]
     exact hq me ck (hK.perm hD (fun e he => (h5.1 e he).1) h6.1.1.2)
   · obtain ⟨hem, heb⟩ := left_mem he
     obtain ⟨⟨k, hk⟩, x, l, b, hx, hl, hev⟩ := h5.1 e hem
     obtain ⟨hd2, hdn2⟩ := done_more he hd hdn
     have hless := left_less he
     have emap : (done ++ [e]).map (·.born) = done.map (·.born) ++ [e.born] := by simp
     have hkk := kOf_eq hk
     have hke : k.length ≤ 32 := by rw [← hkk]; exact hk32 e (.inl hem)
     have hkd : ∀ e ∈ done, ∃ k, e.key = strK k := fun e he => (h5.1 e (hd e he)).1
     have hnn : ((done ++ [e]).map kOf).Nodup := by
       have hdd : (done ++ [e]).Nodup := by
         exact List.Pairwise.of_map (fun e : Ent => e.born) (fun a b h e => h (by rw [e])) hdn2
       refine List.Pairwise.map kOf (fun a b hab => hab) ?_
       refine hdd.imp_of_mem fun {a b} ha hb hne => ?_
       intro e2
       exact hne (inj_of_map h6.1.1.2 (hd2 a ha) (hd2 b hb) e2)
     simp -dsimp only [Vm.G, zA, zB, zC, zD, zE, zF, q32.1]
     refine entry_intro chg clk e g2 (find_born h6.1.1.1 hem) ?_
     simp only [hk, strK, hev]
     cases b
     · have hx0 := hx
       rcases hx with rfl | ⟨rfl, rfl⟩
       · simp -dsimp only [Vm.G, zA, zB, zC, zD, zE, zF, q32.1]
         refine draw_cont [3] (.take 0 (.take 1 (.take 2 (.take 4 (.take 5 (.take 6 (.alt 3 (.alt 7 (.done) .stop) .stop))))))) (fun s h2 => h2 = h'.set V.im (.map (mput (strK k) (.sl 1 (l.map encB)) ck me) (mclk (strK k) me ck)) ∧ s 0 = .ptr V.iv 0 ∧ s 8 = .iter V.ic clk (done.map (·.born) ++ [e.born]) clk) (by kernel_rfl) (by kernel_rfl) (by kernel_rfl) (by decide) ?_ ?_
         · simp -dsimp only [Vm.G, zA, zB, zC, zD, zE, zF, q32.1, g1]
           refine update_intro mt67 me ck g3 trivial (keys_str fun e he => (hK.wf e he).1) ?_
           simp -dsimp only [Vm.G, zA, zB, zC, zD, zE, zF, q32.1]
           repeat' first | rfl | exact True.intro | refine And.intro ?_ ?_
         · rintro s h2 ⟨rfl, e0, e8⟩
           simp -dsimp only [Vm.G, zA, zB, zC, zD, zE, zF, q32.1, e0, e8]
           refine kept_intro ⟨_, hless, _, le_mk [(0, .ptr V.iv 0), (8, .iter V.ic clk ((done ++ [e]).map (·.born)) clk)] ?_, done ++ [e], _, _, by rw [emap], by rw [zTa]; simp only [zOa, zNa]; omega, hK.put hk (by rw [hev]; exact congrArg some (bytesOf_isB hx0)) hx0 hl hke hkd hnn, by rw [hh, List.set_set], hd2, hdn2, rfl⟩
           simp only [Vm.D, emap, e0, e8]
           try simp -dsimp only [Vm.G, zA, zB, zC, zD, zE, zF, q32.1, emap, e0, e8]
           repeat' first | exact .refl _ | exact .nil _ _ _ (by decide) | refine ⟨?_, ?_⟩
       · simp -dsimp only [Vm.G, zA, zB, zC, zD, zE, zF, q32.1]
         refine draw_cont [3] (.take 0 (.take 1 (.take 2 (.take 4 (.take 5 (.take 6 (.alt 3 (.alt 7 (.done) .stop) .stop))))))) (fun s h2 => h2 = h'.set V.im (.map (mput (strK k) (.v (.slice none 0 0)) ck me) (mclk (strK k) me ck)) ∧ s 0 = .ptr V.iv 0 ∧ s 8 = .iter V.ic clk (done.map (·.born) ++ [e.born]) clk) (by kernel_rfl) (by kernel_rfl) (by kernel_rfl) (by decide) ?_ ?_
         · simp -dsimp only [Vm.G, zA, zB, zC, zD, zE, zF, q32.1, g1]
           refine update_intro mt67 me ck g3 trivial (keys_str fun e he => (hK.wf e he).1) ?_
           simp -dsimp only [Vm.G, zA, zB, zC, zD, zE, zF, q32.1]
           repeat' first | rfl | exact True.intro | refine And.intro ?_ ?_
         · rintro s h2 ⟨rfl, e0, e8⟩
           simp -dsimp only [Vm.G, zA, zB, zC, zD, zE, zF, q32.1, e0, e8]
           refine kept_intro ⟨_, hless, _, le_mk [(0, .ptr V.iv 0), (8, .iter V.ic clk ((done ++ [e]).map (·.born)) clk)] ?_, done ++ [e], _, _, by rw [emap], by rw [zTa]; simp only [zOa, zNa]; omega, hK.put hk (by rw [hev]; exact congrArg some (bytesOf_isB hx0)) hx0 hl hke hkd hnn, by rw [hh, List.set_set], hd2, hdn2, rfl⟩
           simp only [Vm.D, emap, e0, e8]
           try simp -dsimp only [Vm.G, zA, zB, zC, zD, zE, zF, q32.1, emap, e0, e8]
           repeat' first | exact .refl _ | exact .nil _ _ _ (by decide) | refine ⟨?_, ?_⟩
     · have hx0 := hx
       have hs : shapeOf e.val = none := by rw [hev]; rfl
       rcases hx with rfl | ⟨rfl, rfl⟩
       · simp -dsimp only [Vm.G, zA, zB, zC, zD, zE, zF, q32.1, g1]
         refine delete_intro mt67 me ck g3 trivial (keys_str fun e he => (hK.wf e he).1) ?_
         simp -dsimp only [Vm.G, zA, zB, zC, zD, zE, zF, q32.1]
         refine kept_intro ⟨_, hless, _, le_mk [(0, .ptr V.iv 0), (8, .iter V.ic clk ((done ++ [e]).map (·.born)) clk)] ?_, done ++ [e], _, _, by rw [emap], by rw [zTa]; simp only [zOa, zNa]; omega, hK.del hk hs hkd hnn, by rw [hh, List.set_set]; rfl, hd2, hdn2, rfl⟩
         simp only [Vm.D, emap]
         try simp -dsimp only [Vm.G, zA, zB, zC, zD, zE, zF, q32.1, emap]
         repeat' first | exact .refl _ | exact .nil _ _ _ (by decide) | refine ⟨?_, ?_⟩
       · simp -dsimp only [Vm.G, zA, zB, zC, zD, zE, zF, q32.1, g1]
         refine delete_intro mt67 me ck g3 trivial (keys_str fun e he => (hK.wf e he).1) ?_
         simp -dsimp only [Vm.G, zA, zB, zC, zD, zE, zF, q32.1]
         refine kept_intro ⟨_, hless, _, le_mk [(0, .ptr V.iv 0), (8, .iter V.ic clk ((done ++ [e]).map (·.born)) clk)] ?_, done ++ [e], _, _, by rw [emap], by rw [zTa]; simp only [zOa, zNa]; omega, hK.del hk hs hkd hnn, by rw [hh, List.set_set]; rfl, hd2, hdn2, rfl⟩
         simp only [Vm.D, emap]
         try simp -dsimp only [Vm.G, zA, zB, zC, zD, zE, zF, q32.1, emap]
         repeat' first | exact .refl _ | exact .nil _ _ _ (by decide) | refine ⟨?_, ?_⟩
def commitSpec : Vm.Spec := fun args h Q => ∃ (V : VId) (f : Fun), args = [.ptr V.iv 0] ∧ isView h V f ∧ f.n ≤ 536870912 ∧ ∀ h', isView h' V f → memV h' V f → Same h h' [V.ic, V.im] → Q (.v (.int .i64 0)) h'
theorem does_commit : Does Tryz.prog 7 commitSpec := by
 refine dA (good_cons does_vready (good_cons does_changes (good_cons does_keep good_nil))) Tryz.func7 rfl (by decide +kernel) ?_
 rintro args h Q ⟨V, f, rfl, hV, hfn, hq⟩
 refine ⟨by simp [Tryz.f7], ?_⟩
 have hV0 := hV
 obtain ⟨chg, clk, mem, clk2, h1, h2, h3, h4, h5, h6, h7, hlen, hk32⟩ := hV
 simp -dsimp only [Vm.G, zA, zB, zC, zD, zE, zF, q7.1]
 refine call_one (S := vreadySpec) rfl _ GaL.rfl ⟨V.iv, V.ic, _, rfl, h1, ?_⟩
 simp -dsimp only [Vm.G, zA, zB, zC, zD, zE, zF, q7.1]
 refine call_one (S := changesSpec) rfl _ GaL.rfl ⟨V, f, rfl, hV0, hfn, fun p d => ?_⟩
 simp -dsimp only [Vm.G, zA, zB, zC, zD, zE, zF, q7.1, h1, bne_self_eq_false]
 refine nil_pointer Tryz.underlying66 ?_
 simp -dsimp only [Vm.G, zA, zB, zC, zD, zE, zF, q7.1]
 refine call_one (S := keepSpec) rfl _ GaL.rfl ⟨V, chg, mem, clk, clk2, rfl, h1, h2, h3, ⟨h4.2.1, h4.2.2⟩, h5, h6, hk32, fun me ck hK => ?_⟩
 have g1 : (h.set V.im (.map me ck))[V.iv]? = some (vobj V.ic V.im) := by rw [zPa h4.2.1.symm]; exact h1
 have g2 : (h.set V.im (.map me ck))[V.ic]? = some (.map chg clk) := by rw [zPa h4.2.2.symm]; exact h2
 have g3 : (h.set V.im (.map me ck))[V.im]? = some (.map me ck) := zRa (get_lt h3)
 have hsame : Same h (h.set V.im (.map me ck)) [V.ic, V.im] := ⟨by simp, fun i _ hi => zPa (by simp at hi; omega)⟩
 generalize h.set V.im (.map me ck) = hh at g1 g2 g3 hsame ⊢
 simp -dsimp only [Vm.G, zA, zB, zC, zD, zE, zF, q7.1, g1]
 refine clear_intro mt65 chg clk g2 ?_
 simp -dsimp only [Vm.G, zA, zB, zC, zD, zE, zF, q7.1]
 have k1 : (hh.set V.ic (.map [] clk))[V.iv]? = some (vobj V.ic V.im) := by rw [zPa h4.1.symm]; exact g1
 have k2 : (hh.set V.ic (.map [] clk))[V.ic]? = some (.map [] clk) := zRa (get_lt g2)
 have k3 : (hh.set V.ic (.map [] clk))[V.im]? = some (.map me ck) := by rw [zPa h4.2.2]; exact g3
 have hn : ∀ k, f k = memOf me k := fun k => by rw [hK.now k]; exact h7 k
 have hl : me.length ≤ f.n := by have := hK.len; omega
 refine hq _ ⟨[], clk, me, ck, k1, k2, k3, h4, ⟨by simp, hK.wf⟩, ⟨⟨⟨.nil, .nil⟩, by simp⟩, hK.born⟩, hn, by simpa using hl, fun e he => ?_⟩ ⟨me, ck, k3, hn, hl⟩ (hsame.trans ⟨by simp, fun i _ hi => zPa (by simp at hi; omega)⟩)
 rcases he with he | he
 · simp at he
 · exact hK.short e he
def abortSpec : Vm.Spec := fun args h Q => ∃ (V : VId) (f g : Fun), args = [.ptr V.iv 0] ∧ isView h V f ∧ memV h V g ∧ ∀ h', isView h' V g → memV h' V g → Same h h' [V.ic] → Q (.tup []) h'
theorem does_abort : Does Tryz.prog 10 abortSpec := by
 refine dA (good_cons does_vready good_nil) Tryz.func10 rfl (by decide +kernel) ?_
 rintro args h Q ⟨V, f, g, rfl, ⟨chg, clk, mem, clk2, h1, h2, h3, h4, h5, h6, h7, hlen, hk32⟩, ⟨mem', ck', hm1, hm2, hm3⟩, hq⟩
 refine ⟨by simp [Tryz.f10], ?_⟩
 rw [h3] at hm1
 cases hm1
 simp -dsimp only [Vm.G, zA, zB, zC, zD, zE, zF, q10.1]
 refine call_one (S := vreadySpec) rfl _ GaL.rfl ⟨V.iv, V.ic, _, rfl, h1, ?_⟩
 simp -dsimp only [Vm.G, zA, zB, zC, zD, zE, zF, q10.1, h1]
 refine clear_intro mt65 chg clk h2 ?_
 have k1 : (h.set V.ic (.map [] clk))[V.iv]? = some (vobj V.ic V.im) := by rw [zPa h4.1.symm]; exact h1
 have k2 : (h.set V.ic (.map [] clk))[V.ic]? = some (.map [] clk) := zRa (get_lt h2)
 have k3 : (h.set V.ic (.map [] clk))[V.im]? = some (.map mem clk2) := by rw [zPa h4.2.2]; exact h3
 have hsame : Same h (h.set V.ic (.map [] clk)) [V.ic] := Same.set _ _ _
 generalize h.set V.ic (.map [] clk) = hh at k1 k2 k3 hsame ⊢
 simp -dsimp only [Vm.E, zA, zB, zC, zD, zE, zG, zH, q10.1, k1]
 refine store_ptr _ k1 rfl rfl (by simp) ?_
 simp -dsimp only [Vm.G, zA, zB, zC, zD, zE, zF, q10.1]
 rw [heap_set_same k1]
 refine hq hh ⟨[], clk, mem, clk2, k1, k2, k3, h4, ⟨by simp, h5.2⟩, ⟨⟨⟨.nil, .nil⟩, by simp⟩, h6.2⟩, hm2, by simpa using hm3, fun e he => ?_⟩ ⟨mem, clk2, k3, hm2, hm3⟩ hsame
 rcases he with he | he
 · simp at he
 · exact hk32 e (.inr he)
def rComId (R : RId) (h : Heap) : RId := ⟨R.iv, h.length, R.inn, h.length + 1⟩
def rAbId (R : RId) (h : Heap) : RId := ⟨R.iv, R.iw, h.length, h.length + 1⟩
theorem set_two {h : Heap} {i : Nat} (hi : i < h.length) (x y z a : AObj) : ((h ++ [x]).set i y ++ [a]).set i z = h.set i z ++ [x, a] := by
 rw [List.set_append_left _ _ hi, List.append_assoc, List.set_append_left _ _ (by rw [List.length_set]; exact hi), List.set_set]
 rfl
theorem get_two {h : Heap} {i j : Nat} {x a z o : AObj} (hj : h[j]? = some o) (hne : j ≠ i) : (h.set i z ++ [x, a])[j]? = some o := by
 have hl : j < (h.set i z).length := by rw [List.length_set]; exact get_lt hj
 rw [List.getElem?_append_left hl, zPa (Ne.symm hne)]; exact hj
theorem get_two0 (h : Heap) (i : Nat) (z x a : AObj) : (h.set i z ++ [x, a])[h.length]? = some x := by
 rw [zWa (by simp)]; simp
theorem get_two1 (h : Heap) (i : Nat) (z x a : AObj) : (h.set i z ++ [x, a])[h.length + 1]? = some a := by
 rw [zWa (by simp)]; simp
theorem get_twoI {h : Heap} {i : Nat} (hi : i < h.length) (z x a : AObj) : (h.set i z ++ [x, a])[i]? = some z := by
 rw [List.getElem?_append_left (by rw [List.length_set]; exact hi), zRa hi]
theorem same_two {h : Heap} {i : Nat} (z x a : AObj) : Same h (h.set i z ++ [x, a]) [i] :=
 ⟨by simp, fun j hj hm => by rw [List.getElem?_append_left (by rw [List.length_set]; exact hj), zPa (by simp at hm; omega)]⟩
theorem does_rCom0 : Does Tryz.prog 8 (fun args h Q => ∃ (R : RId) (ln : List KV), args = [.ptr R.iv 0] ∧ h[R.iv]? = some (.cells [.ptr R.iw 0, .ptr R.inn 0, .ptr R.it 0]) ∧ h[R.inn]? = some (tabObj ln) ∧
   Q (.tup []) (h.set R.iv (.cells [.ptr h.length 0, .ptr R.inn 0, .ptr (h.length + 1) 0]) ++ [tabObj ln, .cells [.v (.slice none 0 0)]])) := by
 refine dA good_nil Tryz.func8 rfl (by decide +kernel) ?_
 rintro args h Q ⟨R, ln, rfl, h1, h2, hq⟩
 refine ⟨by simp [Tryz.f8], ?_⟩
 have hlt := get_lt h1
 have k1 : ∀ r, (h ++ r)[R.iv]? = some (.cells [.ptr R.iw 0, .ptr R.inn 0, .ptr R.it 0]) := fun r => heap_get r h1
 unfold tabObj at h2 hq
 simp -dsimp only [Vm.G, zA, zB, zC, zD, zE, zF, q8.1, h1, h2, k1]
 have k2 : ((h ++ [AObj.cells [.sl 2 (ln.map kvAv)]]).set R.iv (.cells [AV.ptr h.length 0, .ptr R.inn 0, .ptr R.it 0]))[R.iv]? = some (.cells [AV.ptr h.length 0, .ptr R.inn 0, .ptr R.it 0]) := zRa (by simp; omega)
 have k3 : ∀ r, (((h ++ [AObj.cells [.sl 2 (ln.map kvAv)]]).set R.iv (.cells [AV.ptr h.length 0, .ptr R.inn 0, .ptr R.it 0])) ++ r)[R.iv]? = some (.cells [AV.ptr h.length 0, .ptr R.inn 0, .ptr R.it 0]) := fun r => heap_get r k2
 have k4 : ((h ++ [AObj.cells [.sl 2 (ln.map kvAv)]]).set R.iv (.cells [AV.ptr h.length 0, .ptr R.inn 0, .ptr R.it 0])).length = h.length + 1 := by simp
 have e1 : putCells [AV.ptr R.iw 0, .ptr R.inn 0, .ptr R.it 0] 0 [.ptr h.length 0] = [AV.ptr h.length 0, .ptr R.inn 0, .ptr R.it 0] := rfl
 try simp only [e1]
 simp -dsimp only [Vm.G, zA, zB, zC, zD, zE, zF, q8.1, k2, k3, k4]
 have e2 : putCells [AV.ptr h.length 0, .ptr R.inn 0, .ptr R.it 0] 2 [.ptr (h.length + 1) 0] = [.ptr h.length 0, .ptr R.inn 0, .ptr (h.length + 1) 0] := rfl
 try simp only [e2]
 rw [set_two hlt]
 exact hq
theorem does_rAb0 : Does Tryz.prog 11 (fun args h Q => ∃ (R : RId) (ln : List KV), args = [.ptr R.iv 0] ∧ h[R.iv]? = some (.cells [.ptr R.iw 0, .ptr R.inn 0, .ptr R.it 0]) ∧ h[R.iw]? = some (tabObj ln) ∧
   Q (.tup []) (h.set R.iv (.cells [.ptr R.iw 0, .ptr h.length 0, .ptr (h.length + 1) 0]) ++ [tabObj ln, .cells [.v (.slice none 0 0)]])) := by
 refine dA good_nil Tryz.func11 rfl (by decide +kernel) ?_
 rintro args h Q ⟨R, ln, rfl, h1, h2, hq⟩
 refine ⟨by simp [Tryz.f11], ?_⟩
 have hlt := get_lt h1
 have k1 : ∀ r, (h ++ r)[R.iv]? = some (.cells [.ptr R.iw 0, .ptr R.inn 0, .ptr R.it 0]) := fun r => heap_get r h1
 unfold tabObj at h2 hq
 simp -dsimp only [Vm.G, zA, zB, zC, zD, zE, zF, q11.1, h1, h2, k1]
 have k2 : ((h ++ [AObj.cells [.sl 2 (ln.map kvAv)]]).set R.iv (.cells [AV.ptr R.iw 0, .ptr h.length 0, .ptr R.it 0]))[R.iv]? = some (.cells [AV.ptr R.iw 0, .ptr h.length 0, .ptr R.it 0]) := zRa (by simp; omega)
 have k3 : ∀ r, (((h ++ [AObj.cells [.sl 2 (ln.map kvAv)]]).set R.iv (.cells [AV.ptr R.iw 0, .ptr h.length 0, .ptr R.it 0])) ++ r)[R.iv]? = some (.cells [AV.ptr R.iw 0, .ptr h.length 0, .ptr R.it 0]) := fun r => heap_get r k2
 have k4 : ((h ++ [AObj.cells [.sl 2 (ln.map kvAv)]]).set R.iv (.cells [AV.ptr R.iw 0, .ptr h.length 0, .ptr R.it 0])).length = h.length + 1 := by simp
 have e1 : putCells [AV.ptr R.iw 0, .ptr R.inn 0, .ptr R.it 0] 1 [.ptr h.length 0] = [AV.ptr R.iw 0, .ptr h.length 0, .ptr R.it 0] := rfl
 try simp only [e1]
 simp -dsimp only [Vm.G, zA, zB, zC, zD, zE, zF, q11.1, k2, k3, k4]
 have e2 : putCells [AV.ptr R.iw 0, .ptr h.length 0, .ptr R.it 0] 2 [.ptr (h.length + 1) 0] = [.ptr R.iw 0, .ptr h.length 0, .ptr (h.length + 1) 0] := rfl
 try simp only [e2]
 rw [set_two hlt]
 exact hq
theorem gaH_two {h : Heap} {i : Nat} (z x : AObj) : GaH (h.set i z ++ [x, .cells [.v (.slice none 0 0)]]) (h.set i z ++ [x, tabObj []]) :=
 GaH.append rfl fun i o' ho' => by
   match i, ho' with
   | 0, ho' => exact ⟨o', ho', .inl rfl⟩
   | 1, ho' => exact ⟨_, rfl, .inr ⟨_, _, rfl, (Option.some.inj ho').symm, .cons (.nil 2) .nil⟩⟩
   | i + 2, ho' => simp at ho'
def rComSpec : Vm.Spec := fun args h Q => ∃ (R : RId) (f : Fun), args = [.ptr R.iv 0] ∧ isRef h R f ∧ ∀ h', isRef h' (rComId R h) f → wasR h' (rComId R h) f → Same h h' [R.iv] → Q (.tup []) h'
theorem does_rCom : Does Tryz.prog 8 rComSpec := by
 refine (does_weakH does_rCom0).imp ?_
 rintro args h Q ⟨R, f, rfl, ⟨lw, ln, lt, h1, h2, h3, h4, ⟨n1, n2, n3, n4, n5⟩, h6, ⟨h7, h8⟩, h9⟩, hq⟩
 refine ⟨h, .refl h, R, ln, rfl, h1, h3, _, gaH_two _ _, ?_⟩
 have hi := get_lt h1
 have hn := get_lt h3
 refine hq _ ⟨ln, ln, [], get_twoI hi _ _ _, get_two0 _ _ _ _ _, get_two h3 n1.symm, get_two1 _ _ _ _ _, ⟨?_, ?_, ?_, ?_, ?_⟩, h6, ⟨h7, by simp⟩, h9⟩ ⟨ln, get_two0 _ _ _ _ _, h6, h7, h9⟩ (same_two _ _ _) <;> (simp only [rComId]; omega)
def rAbSpec : Vm.Spec := fun args h Q => ∃ (R : RId) (f g : Fun), args = [.ptr R.iv 0] ∧ isRef h R f ∧ wasR h R g ∧ ∀ h', isRef h' (rAbId R h) g → wasR h' (rAbId R h) g → Same h h' [R.iv] → Q (.tup []) h'
theorem does_rAb : Does Tryz.prog 11 rAbSpec := by
 refine (does_weakH does_rAb0).imp ?_
 rintro args h Q ⟨R, f, g, rfl, ⟨lw, ln, lt, h1, h2, h3, h4, ⟨n1, n2, n3, n4, n5⟩, h6, ⟨h7, h8⟩, h9⟩, ⟨lw2, w1, w2, w3, w4⟩, hq⟩
 rw [h2] at w1
 have hlw : lw = lw2 := by
   have := Option.some.inj w1
   unfold tabObj at this
   injection this with e
   injection e with e
   injection e with e1 e2
   exact List.map_inj_right (fun a b hab => by
     unfold kvAv at hab
     injection hab with h
     injection h with h1 h2
     injection h2 with h2 h3
     injection h1 with _ h1
     injection h2 with _ h2
     have i1 : a.1 = b.1 := by have := congrArg (List.map unB) h1; simpa [Function.comp_def, unB_encB] using this
     have i2 : a.2 = b.2 := by have := congrArg (List.map unB) h2; simpa [Function.comp_def, unB_encB] using this
     exact Prod.ext i1 i2) |>.1 e2
 subst hlw
 have nw : R.iw ≠ R.iv := fun e => by
   rw [e, h1] at h2
   have := Option.some.inj h2
   unfold tabObj at this
   injection this with e
   have := congrArg List.length e
   simp at this
 refine ⟨h, .refl h, R, lw, rfl, h1, h2, _, gaH_two _ _, ?_⟩
 have hi := get_lt h1
 have hn := get_lt h2
 refine hq _ ⟨lw, lw, [], get_twoI hi _ _ _, get_two h2 nw, get_two0 _ _ _ _ _, get_two1 _ _ _ _ _, ⟨?_, ?_, ?_, ?_, ?_⟩, w2, ⟨w3, by simp⟩, w4⟩ ⟨lw, get_two h2 nw, w2, w3, w4⟩ (same_two _ _ _) <;> (simp only [rAbId]; omega)
theorem both_turn {h h1 h2 : Heap} {V : VId} {R R' : RId} {f k : Fun} (hB : Both h V R f) (hV : isView h1 V k) (hs : Same h h1 [V.ic, V.im]) (hR : isRef h2 R' k) (hs2 : Same h1 h2 [R.iv]) (hm : memV h1 V k) (hw : wasR h2 R' k)
   (hid : R' = rComId R h1 ∨ R' = rAbId R h1) : BothW h2 V R' k k := by
 obtain ⟨hB1, hB2, hB3⟩ := hB
 have hd : ∀ i ∈ [V.iv, V.ic, V.im], i ∉ [R.iv] := fun i hi hm => hB3 i hi (by simp at hm ⊢; exact .inl hm)
 have hlt : ∀ i ∈ [V.iv, V.ic, V.im], i < h1.length := fun i hi => by
   obtain ⟨chg, clk, mem, clk2, h1, h2, h3, h4⟩ := hV
   simp only [List.mem_cons, List.not_mem_nil, or_false] at hi
   rcases hi with rfl | rfl | rfl
   · exact get_lt h1
   · exact get_lt h2
   · exact get_lt h3
 refine ⟨⟨hV.same hs2 hd, hR, fun i hi hmem => ?_⟩, hm.same hs2 (hd _ (by simp)), hw⟩
 have h3 := hB3 i hi
 have h4 := hlt i hi
 simp only [List.mem_cons, List.not_mem_nil, or_false, not_or] at h3 hmem
 rcases hid with rfl | rfl
 · simp only [rComId] at hmem
   omega
 · simp only [rAbId] at hmem
   omega
def vnewWSpec : Vm.Spec := fun args h Q => args = [nilP] ∧ ∀ (V : VId) (h' : Heap), isView h' V noF → memV h' V noF → Q (.ptr V.iv 0) h'
theorem does_vnewW : Does Tryz.prog 20 vnewWSpec := does_vnew.imp (by
 rintro args h Q ⟨rfl, hq⟩
 refine ⟨rfl, hq ⟨h.length + 2, h.length, h.length + 1⟩ _ (isView_new h) ⟨[], 0, ?_, fun k => rfl, by simp⟩⟩
 rw [zWa (by simp)]; simp)
def rNewWSpec : Vm.Spec := fun args h Q => ∃ V : VId, args = [.sl 2 []] ∧ isView h V noF ∧ memV h V noF ∧ ∀ (R : RId) (h' : Heap), BothW h' V R noF noF → Q (.ptr R.iv 0) h'
theorem does_rNewW : Does Tryz.prog 21 rNewWSpec := does_rNew.imp (by
 rintro args h Q ⟨V, rfl, hV, ⟨mem, clk, m1, m2⟩, hq⟩
 refine ⟨rfl, hq (rNewId h) _ ⟨both_rnew hV, ⟨mem, clk, heap_get _ m1, m2⟩, ⟨[], ?_, TabIs.new, by simp, by simp⟩⟩⟩
 unfold rNewH rNewId
 rw [zWa (by simp)]; simp)
structure Dop where
 year : Int
 frm : Int
 lines : List Ln
def Dop.ok (k : Dop) : Prop := I64 k.year ∧ I64 k.frm ∧ ∀ x ∈ k.lines, x.ok
def keepF : Tab := tab [(153, predSpec fixedP)]
theorem good_keepF : Good keepF := good_cons does_fixedC good_nil
def keepF2 : Tab := tab [(205, orS (ixISpec keepF) ixINil)]
theorem good_keepF2 : Good keepF2 := good_cons (does_or (does_ixI good_keepF) does_ixINil) good_nil
theorem does_delIntsF : Does Tryz.prog 154 (orS (delISpec keepF) delINil) :=
 does_or (does_delI (T2 := keepF) good_keepF2 rfl) (does_delINil (T2 := keepF) good_keepF2 rfl)
theorem does_cOwnF : Does Tryz.prog 78 cOwnSpec := by
 refine dA (good_cons does_cAll (good_cons does_delIntsF good_nil)) Tryz.func78 rfl (by decide +kernel) ?_
 rintro args h Q ⟨V, f, rfl, hV, hn, hfx, hq⟩
 refine ⟨by simp [Tryz.f78], ?_⟩
 simp -dsimp only [Vm.G, zA, zB, zC, zD, zE, zF, q78.1]
 refine call_one (S := cAllSpec) rfl _ GaL.rfl ⟨V, f, 79, rfl, hV, hn, fun l h1 hsc hln hV1 hs1 => ?_⟩
 have hfl := hfx l hsc
 have hq1 := hq l h1 hsc hln hV1 hs1
 have hal : (allF l).length ≤ l.length := zQa ..
 generalize allF l = A at hfl hq1 hal ⊢
 simp -dsimp only [Vm.G, zA, zB, zC, zD, zE, zF, q78.1]
 refine call_in _ _ _ ?_
 simp -dsimp only [Vm.G, zA, zB, zC, zD, zE, zF, q78.1, callI_eq, ownSl_own, ownSl_alias]
 refine callI_ret (S := orS (delISpec keepF) delINil) (xs' := A.map encI) rfl (fun x hx => hx) (fun hx => ⟨hx, fun Q' hq' => .inr ⟨_, rfl, hq'⟩⟩)
   (fun c hc Q' hq' => .inl ⟨153, fixedP, A, h1.length, c, 3, c * 1, rfl, by rw [zMa], by rw [heap_last, flat_ints], by omega, hfl, ?_⟩) ?_
 · have := hq' (flat (A.map encI)) (by rw [flat_ints, List.take_of_length_le (by simp)])
   rw [zMa] at this
   exact this
 · simp -dsimp only [Vm.G, zA, zB, zC, zD, zE, zF, q78.1]
   exact hq1
theorem does_cNewObjF : Does Tryz.prog 26 cNewObjSpec := by
 refine dA (good_cons does_objP (good_cons does_cObj (good_cons does_cOwnF (good_cons does_key (good_cons does_vput good_nil))))) Tryz.func26 rfl (by decide +kernel) ?_
 rintro args h Q ⟨V, f, n, rfl, hV, hn, ho, hno, hem, hq⟩
 refine ⟨by simp [Tryz.f26], ?_⟩
 simp -dsimp only [Vm.G, zA, zB, zC, zD, zE, zF, q26.1]
 refine call_one (S := predSpec objP) rfl _ GaL.rfl ⟨n, rfl, ?_⟩
 rw [ho]
 simp -dsimp only [Vm.G, zA, zB, zC, zD, zE, zF, q26.1]
 refine call_one (S := cObjSpec) rfl _ GaL.rfl ⟨V, f, n, rfl, hV, ?_⟩
 rw [hno]
 simp -dsimp only [Vm.G, zA, zB, zC, zD, zE, zF, q26.1]
 refine call_one (S := cOwnSpec) rfl _ GaL.rfl ⟨V, f, rfl, hV, hn, fun l hl x hx => (by rw [hem l hl] at hx; cases hx), fun l h1 hsc hln hV1 hs1 => ?_⟩
 rw [hem l hsc]
 have k0 : decide (((0 : Nat) : Int) ≥ 60) = false := by decide
 simp -dsimp only [Vm.G, zA, zB, zC, zD, zE, zF, q26.1, zLa, zNa, k0]
 refine bs_intro zr3 (by decide) (by decide) rfl rfl (by simp [solid, AV.cells]) ?_
 simp -dsimp only [Vm.G, zA, zB, zC, zD, zE, zF, q26.1]
 refine call_one (S := keySpec) rfl _ GaL.rfl ⟨79, [n], by simp, rfl, ?_⟩
 simp -dsimp only [Vm.G, zA, zB, zC, zD, zE, zF, q26.1]
 refine call_one (S := vputSpec) rfl _ (.cons (.refl _) (.cons (.refl _) (.cons (.nil 1) .nil))) ⟨V, f, objK n, [], rfl, hV1, fun _ h2 g1 g2 => ?_, fun hc => ?_⟩
 · simp -dsimp only [Vm.G, zA, zB, zC, zD, zE, zF, q26.1]
   exact hq h2 g1 ((Same.wide hs1).trans g2)
 · have : rightKV (objK n) [] = true := by
     have hl : (objK n).length = 5 := key1_length 79 n
     simp [rightKV, hl]
   rw [this] at hc; cases hc
def rcNewObjSpec : Vm.Spec := fun args h Q => ∃ (R : RId) (f : Fun) (n : Int), args = [.ptr R.iv 0, .v (.int .i64 n)] ∧ isRef h R f ∧ f.n ≤ 536870912 ∧ objP n = true ∧ objOk f n = false ∧ (∀ l, ScanIs f [79] l → allF l = []) ∧
 ∀ h', isRef h' R (upd f (objK n) (some [])) → Same h h' (rFoot R) → Q (.v (.int .i64 0)) h'
theorem does_rcNewObj : Does Tryz.prog 27 rcNewObjSpec := by
 refine dA (good_cons does_rObj16 (good_cons does_rcObj (good_cons does_rcAll (good_cons does_rKey (good_cons does_rPut good_nil))))) Tryz.func27 rfl (by decide +kernel) ?_
 rintro args h Q ⟨R, f, n, rfl, hR, hn, ho, hno, hem, hq⟩
 refine ⟨by simp [Tryz.f27], ?_⟩
 simp -dsimp only [Vm.G, zA, zB, zC, zD, zE, zF, q27.1]
 refine call_one (S := predSpec objP) rfl _ GaL.rfl ⟨n, rfl, ?_⟩
 rw [ho]
 simp -dsimp only [Vm.G, zA, zB, zC, zD, zE, zF, q27.1]
 refine call_one (S := rcObjSpec) rfl _ GaL.rfl ⟨R, f, n, rfl, hR, hn, ?_⟩
 rw [hno]
 simp -dsimp only [Vm.G, zA, zB, zC, zD, zE, zF, q27.1]
 refine call_one (S := rcAllSpec) rfl _ GaL.rfl ⟨R, f, 79, rfl, hR, hn, fun l hsc hln => ?_⟩
 rw [hem l hsc]
 simp -dsimp only [Vm.G, zA, zB, zC, zD, zE, zF, q27.1, zLa]
 refine awp_loop (fun m s h' => h' = h ∧ s = mk [(0, .ptr R.iv 0), (1, .v (.int .i64 n)), (5, .v (.int .i64 0)), (6, .own true 3 1 []), (7, .v (.int .i64 0))])
   0 _ (le_mk _ ?_) ⟨rfl, rfl⟩ ?_
 · simp only [Vm.D]
   try simp -dsimp only [Vm.G, zA, zB, zC, zD, zE, zF, q27.1]
   repeat' first | exact .refl _ | exact .nil _ _ _ (by decide) | refine ⟨?_, ?_⟩
 · rintro m s h' ⟨rfl, rfl⟩
   simp -dsimp only [Vm.G, zA, zB, zC, zD, zE, zF, q27.1, zNa]
   refine cond_intro (fun hcc => ?_) (fun hcc => ?_)
   · have := of_decide_eq_true hcc
     omega
   · have c60 : decide ((0 : Int) ≥ 60) = false := by decide
     simp -dsimp only [Vm.G, zA, zB, zC, zD, zE, zF, q27.1, c60]
     refine bs_intro zr3 (by decide) (by decide) rfl rfl (by simp [solid, AV.cells]) ?_
     simp -dsimp only [Vm.G, zA, zB, zC, zD, zE, zF, q27.1]
     refine call_one (S := keySpec) rfl _ GaL.rfl ⟨79, [n], by simp, rfl, ?_⟩
     simp -dsimp only [Vm.G, zA, zB, zC, zD, zE, zF, q27.1]
     refine call_one (S := rPutSpec) rfl _ (.cons (.refl _) (.cons (.refl _) (.cons (.nil 1) .nil))) ⟨R, f, objK n, [], rfl, hR, hn, fun _ h2 g1 g2 => ?_, fun hc => ?_⟩
     · simp -dsimp only [Vm.G, zA, zB, zC, zD, zE, zF, q27.1]
       exact hq h2 g1 g2
     · have : rightKV (objK n) [] = true := by
         have hl : (objK n).length = 5 := key1_length 79 n
         simp [rightKV, hl]
       rw [this] at hc; cases hc
def y20F : Fun := (openOf noF 2020).1
theorem y20_app (q : List UInt8) : y20F q = if q = yrK 2020 then some (be 8 1) else none := by
 show (openOf noF 2020).1 q = _
 rw [open20]
 rfl
theorem y20_pre {t : UInt8} (ht : t ≠ 89) {l : List KV} (hl : ScanIs y20F [t] l) : l = [] := by
 cases l with
 | nil => rfl
 | cons p r =>
   obtain ⟨h1, h2⟩ := (hl.2 p.1 p.2).1 (List.mem_cons_self ..)
   rw [y20_app] at h1
   split at h1
   · rename_i e
     rw [e] at h2
     have h2 : (t == 89 && true) = true := h2
     simp at h2
     exact absurd h2 ht
   · cases h1
def bF1 : Fun := upd y20F (fundK 100) (some [97])
theorem bf_new : newFund y20F 100 [97] = (bF1, 0) := by
 unfold newFund
 rw [if_pos ⟨by decide, by decide⟩, if_neg ?_, if_neg ?_]
 · rfl
 · rintro ⟨l, hl, hn⟩
   rw [y20_pre (by decide) hl] at hn
   simp at hn
 · intro h
   rw [y20_app, if_neg (by decide)] at h
   exact h rfl
theorem bf_objs {l : List KV} (hl : ScanIs bF1 [79] l) : allF l = [] := by
 have : l = [] := by
   cases l with
   | nil => rfl
   | cons p r =>
     obtain ⟨h1, h2⟩ := (hl.2 p.1 p.2).1 (List.mem_cons_self ..)
     unfold bF1 at h1
     rw [upd_app] at h1
     split at h1
     · rename_i e
       rw [e] at h2
       exact absurd h2 (by decide)
     · rw [y20_app] at h1
       split at h1
       · rename_i e
         rw [e] at h2
         exact absurd h2 (by decide)
       · cases h1
 rw [this]; rfl
theorem bf_obj : objOk bF1 5010 = false := by decide +kernel
def beg34 (l : List Nd) : Fun := l.foldl putN begF
theorem beg34_n (l : List Nd) : (beg34 l).n ≤ l.length + 10 := by
 have : ∀ (l : List Nd) (f : Fun), (l.foldl putN f).n = f.n + l.length := by
   intro l
   induction l with
   | nil => intro f; rfl
   | cons x r ih =>
     intro f
     rw [List.foldl_cons, ih]
     show f.n + 1 + r.length = f.n + (r.length + 1)
     omega
 unfold beg34
 rw [this]
 have : begF.n ≤ 10 := by decide +kernel
 omega
def begun34Spec : Vm.Spec := fun args h Q => ∃ l : List Nd, l.length ≤ 1048576 ∧ (∀ n ∈ l, n.ok) ∧ args = [.sl 12 (l.map ndAv)] ∧ ∀ (V : VId) (R : RId) (h' : Heap), BothW h' V R (beg34 l) noF → Q (.tup [.ptr V.iv 0, .ptr R.iv 0]) h'
theorem does_begun34 : Does Tryz.prog 6 begun34Spec := by
 refine dA (good_cons does_vnewW (good_cons does_rNewW (good_cons does_yOpen (good_cons does_rOpen (good_cons does_cNew (good_cons does_rcNew (good_cons does_cNewObjF (good_cons does_rcNewObj (good_cons does_tput (good_cons does_rtPut good_nil)))))))))) Tryz.func6 rfl (by decide +kernel) ?_
 rintro args h Q ⟨l, hl, hok, rfl, hq⟩
 refine ⟨by simp [Tryz.f6], ?_⟩
 simp -dsimp only [Vm.G, zA, zB, zC, zD, zE, zF, q6.1]
 refine call_one (S := vnewWSpec) rfl _ GaL.rfl ⟨rfl, fun V h00 hV00 hm00 => ?_⟩
 simp -dsimp only [Vm.G, zA, zB, zC, zD, zE, zF, q6.1]
 refine call_one (S := rNewWSpec) rfl _ (.cons (.nil 2) .nil) ⟨V, rfl, hV00, hm00, fun R h0 hB0 => ?_⟩
 clear hV00 hm00
 simp -dsimp only [Vm.G, zA, zB, zC, zD, zE, zF, q6.1]
 refine call_one (S := yOpenSpec) rfl _ GaL.rfl ⟨V, noF, 2020, rfl, hB0.1.1, fun h1 g1 g2 => ?_⟩
 simp -dsimp only [Vm.G, zA, zB, zC, zD, zE, zF, q6.1]
 refine call_one (S := rOpenSpec) rfl _ GaL.rfl ⟨R, noF, 2020, rfl, hB0.1.view g1 g2, by decide, fun h2 g3 g4 => ?_⟩
 have hB1 : BothW h2 V R y20F noF := hB0.step g1 g2 g3 g4
 clear hB0 g1 g2 g3 g4
 simp -dsimp only [Vm.G, zA, zB, zC, zD, zE, zF, q6.1]
 refine call_one (S := cNewSpec) rfl _ GaL.rfl ⟨V, y20F, 100, [97], by decide, rfl, hB1.1.1, by decide, fun h3 g1 g2 => ?_⟩
 rw [bf_new] at g1 ⊢
 simp -dsimp only [Vm.G, zA, zB, zC, zD, zE, zF, q6.1]
 refine call_one (S := rcNewSpec) rfl _ GaL.rfl ⟨R, y20F, 100, [97], by decide, rfl, hB1.1.view g1 g2, by decide, fun h4 g3 g4 => ?_⟩
 rw [bf_new] at g3 ⊢
 have hB2 : BothW h4 V R bF1 noF := hB1.step g1 g2 g3 g4
 clear hB1 g1 g2 g3 g4
 simp -dsimp only [Vm.G, zA, zB, zC, zD, zE, zF, q6.1]
 refine call_one (S := cNewObjSpec) rfl _ GaL.rfl ⟨V, bF1, 5010, rfl, hB2.1.1, by decide, by decide, bf_obj, fun l hl => bf_objs hl, fun h5 g1 g2 => ?_⟩
 simp -dsimp only [Vm.G, zA, zB, zC, zD, zE, zF, q6.1]
 refine call_one (S := rcNewObjSpec) rfl _ GaL.rfl ⟨R, bF1, 5010, rfl, hB2.1.view g1 g2, by decide, by decide, bf_obj, fun l hl => bf_objs hl, fun h6 g3 g4 => ?_⟩
 have hB3 : BothW h6 V R begF noF := hB2.step g1 g2 g3 g4
 clear hB2 g1 g2 g3 g4
 simp -dsimp only [Vm.G, zA, zB, zC, zD, zE, zF, q6.1]
 refine awp_loop (fun m s h' => ∃ i : Nat, i + m = l.length ∧ BothW h' V R (beg34 (l.take i)) noF ∧ s = mk [(4, .ptr V.iv 0), (5, .ptr R.iv 0), (22, .sl 12 (l.map ndAv)), (23, .v (.int .i64 l.length)), (24, .v (.int .i64 (i : Nat)))])
   l.length _ (le_mk _ ?_) ⟨0, by omega, hB3, rfl⟩ ?_
 · simp only [Vm.D]
   try simp -dsimp only [Vm.G, zA, zB, zC, zD, zE, zF, q6.1]
   repeat' first | exact .refl _ | exact .nil _ _ _ (by decide) | refine ⟨?_, ?_⟩
 · clear hB3
   rintro m s h' ⟨i, hi, hB, rfl⟩
   simp -dsimp only [Vm.G, zA, zB, zC, zD, zE, zF, q6.1]
   refine cond_intro (fun hcc => ?_) (fun hcc => ?_)
   · have hlt : i < l.length := by have := of_decide_eq_true hcc; omega
     have hw := hwN i (by omega)
     have hfn := beg34_n (l.take i)
     have htl : (l.take i).length ≤ i := by rw [List.length_take]; omega
     have est : beg34 (l.take (i + 1)) = putN (beg34 (l.take i)) l[i] := by
       unfold beg34
       rw [List.take_succ_eq_append_getElem hlt, List.foldl_append]; rfl
     have ho := hok l[i] (zJb hlt)
     have hxe : ∃ n, l[i] = n := ⟨_, rfl⟩
     rcases hxe with ⟨n, hnx⟩
     rw [hnx] at est ho
     simp -dsimp only [Vm.G, zA, zB, zC, zD, zE, zF, q6.1]
     refine idx_map ndAv l i hlt ?_
     have hok2 : (yr20 n).ok := ⟨by show I64 2020; unfold I64; omega, ho.2⟩
     simp only [hnx, ndAv, ndCells]
     simp -dsimp only [Vm.G, zA, zB, zC, zD, zE, zF, q6.1, AV.cells]
     refine call_one (S := tputSpec) rfl _ GaL.rfl ⟨V, beg34 (l.take i), yr20 n, rfl, hok2, hB.1.1, fun h2 g1 g2 => ?_⟩
     simp -dsimp only [Vm.G, zA, zB, zC, zD, zE, zF, q6.1]
     refine call_one (S := rtPutSpec) rfl _ GaL.rfl ⟨R, beg34 (l.take i), yr20 n, rfl, hok2, hB.1.view g1 g2, by omega, fun h3 g3 g4 => ?_⟩
     have hB2 := hB.step g1 g2 g3 g4
     have hB2 : BothW h3 V R (beg34 (l.take (i + 1))) noF := by rw [est]; exact hB2
     simp -dsimp only [Vm.G, zA, zB, zC, zD, zE, zF, q6.1]
     refine kept_intro ⟨l.length - (i + 1), by omega, _, le_mk [(4, .ptr V.iv 0), (5, .ptr R.iv 0), (22, .sl 12 (l.map ndAv)), (23, .v (.int .i64 l.length)), (24, .v (.int .i64 (i + 1 : Nat)))] ?_, i + 1, by omega, hB2, rfl⟩
     simp only [Vm.D, hw]
     try simp -dsimp only [Vm.G, zA, zB, zC, zD, zE, zF, q6.1, hw]
     repeat' first | exact .refl _ | exact .nil _ _ _ (by decide) | refine ⟨?_, ?_⟩
   · have hge : ¬ i < l.length := by have := of_decide_eq_false hcc; omega
     rw [List.take_of_length_le (by omega)] at hB
     simp -dsimp only [Vm.G, zA, zB, zC, zD, zE, zF, q6.1]
     exact hq V R h' hB
structure Ds where
 op : Int
 year : Int
 a : Int
 b : Int
 n : Int
 node : Nd
def dsCells (k : Ds) : List AV := [.v (.int .i64 k.op), .v (.int .i64 k.year), .v (.int .i64 k.a), .v (.int .i64 k.b), .v (.int .i64 k.n)] ++ ndCells k.node
def dsAv (k : Ds) : AV := .agg (dsCells k)
def Ds.ok (k : Ds) : Prop := I64 k.year ∧ I64 k.a ∧ I64 k.b ∧ I64 k.n ∧ k.node.ok
noncomputable def doF (f : Fun) (k : Ds) : Fun × Int :=
 if k.op = 0 ∨ k.op = 1 then shNew f k.node
 else if k.op = 2 then ((shAmend f k.year k.a k.n).1, (shAmend f k.year k.a k.n).2.2)
 else if k.op = 3 then ((shMove f k.year k.a k.b k.n).1, (shMove f k.year k.a k.b k.n).2.2)
 else if k.op = 4 then cancelF f k.a k.b k.n
 else ((preNew f k.year [⟨0, 0, k.a, k.n⟩]).1, (preNew f k.year [⟨0, 0, k.a, k.n⟩]).2.2.2)
def do34Spec : Vm.Spec := fun args h Q => ∃ (V : VId) (R : RId) (f g : Fun) (k : Ds), k.ok ∧ args = [.ptr V.iv 0, .ptr R.iv 0, dsAv k] ∧ BothW h V R f g ∧ f.n ≤ 1048576 ∧
 ∀ h', BothW h' V R (doF f k).1 g → Q (.tup [.v (.int .i64 (doF f k).2), .v (.bool true)]) h'
theorem does_do34 : Does Tryz.prog 9 do34Spec := by
 refine dA (good_cons does_shNew (good_cons does_rShNew (good_cons does_shAmend (good_cons does_rShAmend (good_cons does_shMove (good_cons does_rShMove (good_cons does_cancel (good_cons does_rCancel (good_cons does_preNew (good_cons does_rPreNew good_nil)))))))))) Tryz.func9 rfl (by decide +kernel) ?_
 rintro args h Q ⟨V, R, f, g, k, ⟨o1, o2, o3, o4, o5⟩, rfl, hB, hn, hq⟩
 refine ⟨by simp [Tryz.f9], ?_⟩
 simp only [dsAv, dsCells, ndCells, zUa, zVa]
 have hd0 := doF.eq_1 f k
 have h0 := zKa (k.op == 0)
 rcases h0 with c0 | c0
 · have hd : doF f k = shNew f k.node := by rw [hd0, if_pos (.inl (by simpa using c0))]
   simp -dsimp only [Vm.G, zA, zB, zC, zD, zE, zF, q9.1, c0]
   refine call_one (S := shNewSpec) rfl _ GaL.rfl ⟨V, f, k.node, o5, rfl, hB.1.1, by omega, fun h2 g1 g2 => ?_⟩
   simp -dsimp only [Vm.G, zA, zB, zC, zD, zE, zF, q9.1]
   refine call_one (S := rShNewSpec) rfl _ GaL.rfl ⟨R, f, k.node, o5, rfl, hB.1.view g1 g2, by omega, fun h3 g3 g4 => ?_⟩
   have hB2 := hB.step g1 g2 g3 g4
   rw [hd] at hq
   simp -dsimp only [Vm.G, zA, zB, zC, zD, zE, zF, q9.1, bool_eql, beq_self_eq_true]
   exact hq h3 hB2
 · have d0 : ¬ k.op = 0 := by simpa using c0
   have h0 := zKa (k.op == 1)
   rcases h0 with c1 | c1
   · have hd : doF f k = shNew f k.node := by rw [hd0, if_pos (.inr (by simpa using c1))]
     simp -dsimp only [Vm.G, zA, zB, zC, zD, zE, zF, q9.1, c0, c1]
     refine call_one (S := shNewSpec) rfl _ GaL.rfl ⟨V, f, k.node, o5, rfl, hB.1.1, by omega, fun h2 g1 g2 => ?_⟩
     simp -dsimp only [Vm.G, zA, zB, zC, zD, zE, zF, q9.1]
     refine call_one (S := rShNewSpec) rfl _ GaL.rfl ⟨R, f, k.node, o5, rfl, hB.1.view g1 g2, by omega, fun h3 g3 g4 => ?_⟩
     have hB2 := hB.step g1 g2 g3 g4
     rw [hd] at hq
     simp -dsimp only [Vm.G, zA, zB, zC, zD, zE, zF, q9.1, bool_eql, beq_self_eq_true]
     exact hq h3 hB2
   · have d1 : ¬ k.op = 1 := by simpa using c1
     have h0 := zKa (k.op == 2)
     rcases h0 with c2 | c2
     · have hd : doF f k = ((shAmend f k.year k.a k.n).1, (shAmend f k.year k.a k.n).2.2) := by rw [hd0, if_neg (by omega), if_pos (by simpa using c2)]
       simp -dsimp only [Vm.G, zA, zB, zC, zD, zE, zF, q9.1, c0, c1, c2]
       refine call_one (S := shAmendSpec) rfl _ GaL.rfl ⟨V, f, k.year, k.a, k.n, o4, rfl, hB.1.1, by omega, fun h2 g1 g2 => ?_⟩
       simp -dsimp only [Vm.G, zA, zB, zC, zD, zE, zF, q9.1]
       refine call_one (S := rShAmendSpec) rfl _ GaL.rfl ⟨R, f, k.year, k.a, k.n, o4, rfl, hB.1.view g1 g2, by omega, fun h3 g3 g4 => ?_⟩
       have hB2 := hB.step g1 g2 g3 g4
       rw [hd] at hq
       simp -dsimp only [Vm.G, zA, zB, zC, zD, zE, zF, q9.1, bool_eql, beq_self_eq_true]
       exact hq h3 hB2
     · have d2 : ¬ k.op = 2 := by simpa using c2
       have h0 := zKa (k.op == 3)
       rcases h0 with c3 | c3
       · have hd : doF f k = ((shMove f k.year k.a k.b k.n).1, (shMove f k.year k.a k.b k.n).2.2) := by rw [hd0, if_neg (by omega), if_neg d2, if_pos (by simpa using c3)]
         simp -dsimp only [Vm.G, zA, zB, zC, zD, zE, zF, q9.1, c0, c1, c2, c3]
         refine call_one (S := shMoveSpec) rfl _ GaL.rfl ⟨V, f, k.year, k.a, k.b, k.n, rfl, hB.1.1, by omega, fun h2 g1 g2 => ?_⟩
         simp -dsimp only [Vm.G, zA, zB, zC, zD, zE, zF, q9.1]
         refine call_one (S := rShMoveSpec) rfl _ GaL.rfl ⟨R, f, k.year, k.a, k.b, k.n, rfl, hB.1.view g1 g2, by omega, fun h3 g3 g4 => ?_⟩
         have hB2 := hB.step g1 g2 g3 g4
         rw [hd] at hq
         simp -dsimp only [Vm.G, zA, zB, zC, zD, zE, zF, q9.1, bool_eql, beq_self_eq_true]
         exact hq h3 hB2
       · have d3 : ¬ k.op = 3 := by simpa using c3
         have h0 := zKa (k.op == 4)
         rcases h0 with c4 | c4
         · have hd : doF f k = cancelF f k.a k.b k.n := by rw [hd0, if_neg (by omega), if_neg d2, if_neg d3, if_pos (by simpa using c4)]
           simp -dsimp only [Vm.G, zA, zB, zC, zD, zE, zF, q9.1, c0, c1, c2, c3, c4]
           refine call_one (S := cancelSpec) rfl _ GaL.rfl ⟨V, f, k.a, k.b, k.n, o2, o3, rfl, hB.1.1, by omega, fun h2 g1 g2 => ?_⟩
           simp -dsimp only [Vm.G, zA, zB, zC, zD, zE, zF, q9.1]
           refine call_one (S := rCancelSpec) rfl _ GaL.rfl ⟨R, f, k.a, k.b, k.n, o2, o3, rfl, hB.1.view g1 g2, by omega, fun h3 g3 g4 => ?_⟩
           have hB2 := hB.step g1 g2 g3 g4
           rw [hd] at hq
           simp -dsimp only [Vm.G, zA, zB, zC, zD, zE, zF, q9.1, bool_eql, beq_self_eq_true]
           exact hq h3 hB2
         · have d4 : ¬ k.op = 4 := by simpa using c4
           have hd : doF f k = ((preNew f k.year [⟨0, 0, k.a, k.n⟩]).1, (preNew f k.year [⟨0, 0, k.a, k.n⟩]).2.2.2) := by rw [hd0, if_neg (by omega), if_neg d2, if_neg d3, if_neg d4]
           have hlo : ∀ x ∈ ([⟨0, 0, k.a, k.n⟩] : List Ln), x.ok := fun x hx => by
             rw [List.mem_singleton] at hx; subst hx
             exact ⟨show I64 0 by unfold I64; omega, show I64 0 by unfold I64; omega, o2, o4⟩
           simp -dsimp only [Vm.G, zA, zB, zC, zD, zE, zF, q9.1, c0, c1, c2, c3, c4]
           refine bs_intro zr85 (by decide) (by decide) rfl rfl (by simp [solid, AV.cells]) ?_
           simp -dsimp only [Vm.G, zA, zB, zC, zD, zE, zF, q9.1]
           refine call_one (S := preNewSpec) rfl _ GaL.rfl ⟨V, f, k.year, [⟨0, 0, k.a, k.n⟩], o1, by simp, hlo, rfl, hB.1.1, fun h2 g1 g2 => ?_⟩
           simp -dsimp only [Vm.G, zA, zB, zC, zD, zE, zF, q9.1]
           refine call_one (S := rPreNewSpec) rfl _ GaL.rfl ⟨R, f, k.year, [⟨0, 0, k.a, k.n⟩], o1, by simp, hlo, rfl, hB.1.view g1 g2, by omega, fun h3 g3 g4 => ?_⟩
           have hB2 := hB.step g1 g2 g3 g4
           rw [hd] at hq
           simp -dsimp only [Vm.G, zA, zB, zC, zD, zE, zF, q9.1, bool_eql, beq_self_eq_true]
           exact hq h3 hB2
def sn1 : Nd := ⟨2020, 1, 0, 100, 5010, false, 9, 0, 0, 0, 0, 0⟩
def sn2 : Nd := ⟨2020, 2, 1, 100, 5010, false, 6, 0, 0, 0, 0, 0⟩
def sn3 : Nd := ⟨2020, 3, 1, 100, 5010, false, 4, 0, 0, 0, 0, 0⟩
def sF1 : Fun := upd begF (ndK sn1) (some (ndV sn1))
def sF2 : Fun := upd sF1 (ndK sn2) (some (ndV sn2))
theorem y20_tab : TabIs y20F [(yrK 2020, be 8 1)] := by
 refine ⟨by simp, fun k v => ?_⟩
 rw [y20_app, List.mem_singleton]
 by_cases hk : k = yrK 2020
 · rw [if_pos hk, hk, Prod.mk.injEq]
   exact ⟨fun h => by rw [h.2], fun h => ⟨rfl, (Option.some.inj h).symm⟩⟩
 · rw [if_neg hk, Prod.mk.injEq]
   exact ⟨fun h => absurd h.1 hk, fun h => by cases h⟩
def tB0 : List KV := tput (objK 5010) [] (tput (fundK 100) [97] [(yrK 2020, be 8 1)])
theorem beg_tab : TabIs begF tB0 := (y20_tab.put _ _).put _ _
theorem u0 : underF begF 2020 0 = 0 := by rw [underF_eq (beg_tab.scan _)]; decide +kernel
theorem u1 : underF sF1 2020 1 = 0 := by
 show underF (upd begF (ndK sn1) (some (ndV sn1))) 2020 1 = 0
 rw [underF_eq ((beg_tab.put (ndK sn1) (ndV sn1)).scan _)]; decide +kernel
theorem u2 : underF sF2 2020 1 = 6 := by
 show underF (upd (upd begF (ndK sn1) (some (ndV sn1))) (ndK sn2) (some (ndV sn2))) 2020 1 = 6
 rw [underF_eq (((beg_tab.put (ndK sn1) (ndV sn1)).put (ndK sn2) (ndV sn2)).scan _)]; decide +kernel
theorem sh1 : shNew begF sn1 = (sF1, 0) := by
 have e : underF begF sn1.year sn1.parent = 0 := u0
 unfold shNew
 rw [e]
 unfold shiftNew
 rw [if_neg (by decide +kernel), if_neg (by decide +kernel), if_neg (by decide +kernel), if_neg (by decide +kernel), if_neg (by decide +kernel)]
 rfl
theorem sh2 : shNew sF1 sn2 = (sF2, 0) := by
 have e : underF sF1 sn2.year sn2.parent = 0 := u1
 unfold shNew
 rw [e]
 unfold shiftNew
 rw [if_neg (by decide +kernel), if_neg (by decide +kernel), if_neg (by decide +kernel), if_neg (by decide +kernel), if_neg (by decide +kernel)]
 rfl
theorem sh3 : (shNew sF2 sn3).2 = 11 := by
 have e : underF sF2 sn3.year sn3.parent = 6 := u2
 unfold shNew
 rw [e]
 decide +kernel
theorem sn_ok {n : Nd} (h : n = sn1 ∨ n = sn2 ∨ n = sn3) : n.ok := by
 rcases h with rfl | rfl | rfl <;> refine ⟨?_, ?_, ?_, ?_, ?_, ?_, ?_, ?_, ?_, ?_, ?_⟩ <;> (unfold I64; decide)
theorem does_law34awake : Does Tryz.prog 5 yesSpec := by
 refine dA (good_cons does_begun34 (good_cons does_shNew good_nil)) Tryz.func5 rfl (by decide +kernel) ?_
 rintro args h Q ⟨rfl, hq⟩
 refine ⟨by simp [Tryz.f5], ?_⟩
 simp -dsimp only [Vm.G, zA, zB, zC, zD, zE, zF, q5.1]
 refine call_one (S := begun34Spec) rfl _ (.cons (.nil 12) .nil) ⟨[], by simp, by simp, rfl, fun V R h1 hB => ?_⟩
 have hV : isView h1 V begF := hB.1.1
 clear hB
 simp -dsimp only [Vm.G, zA, zB, zC, zD, zE, zF, q5.1]
 refine nil_pointer Tryz.underlying24 ?_
 simp -dsimp only [Vm.G, zA, zB, zC, zD, zE, zF, q5.1]
 refine call_one (S := shNewSpec) rfl _ GaL.rfl ⟨V, begF, sn1, sn_ok (.inl rfl), rfl, hV, by decide +kernel, fun h2 hV2 _ => ?_⟩
 rw [sh1] at hV2 ⊢
 simp -dsimp only [Vm.G, zA, zB, zC, zD, zE, zF, q5.1, bne_self_eq_false]
 refine call_one (S := shNewSpec) rfl _ GaL.rfl ⟨V, sF1, sn2, sn_ok (.inr (.inl rfl)), rfl, hV2, by decide +kernel, fun h3 hV3 _ => ?_⟩
 rw [sh2] at hV3 ⊢
 simp -dsimp only [Vm.G, zA, zB, zC, zD, zE, zF, q5.1, bne_self_eq_false]
 refine call_one (S := shNewSpec) rfl _ GaL.rfl ⟨V, sF2, sn3, sn_ok (.inr (.inr rfl)), rfl, hV3, by decide +kernel, fun h4 hV4 _ => ?_⟩
 rw [sh3]
 simp -dsimp only [Vm.G, zA, zB, zC, zD, zE, zF, q5.1, beq_self_eq_true]
 exact hq _
theorem BothW.com {h h1 : Heap} {V : VId} {R : RId} {f g : Fun} (hB : BothW h V R f g) (g3 : Same h h1 [V.ic, V.im]) : isRef h1 R f := hB.1.2.1.same g3 fun i hi hm => by
 simp only [List.mem_cons, List.not_mem_nil, or_false] at hm
 rcases hm with rfl | rfl
 · exact hB.1.2.2 V.ic (by simp) hi
 · exact hB.1.2.2 V.im (by simp) hi
theorem BothW.abo {h h1 : Heap} {V : VId} {R : RId} {f g : Fun} (hB : BothW h V R f g) (g3 : Same h h1 [V.ic]) : isRef h1 R f ∧ wasR h1 R g := by
 have hd : ∀ i ∈ [R.iv, R.iw, R.inn, R.it], i ∉ [V.ic] := fun i hi hm => by
   simp only [List.mem_cons, List.not_mem_nil, or_false] at hm
   subst hm
   exact hB.1.2.2 V.ic (by simp) hi
 exact ⟨hB.1.2.1.same g3 hd, hB.2.2.same g3 (hd _ (by simp))⟩
theorem shNew_n (f : Fun) (n : Nd) : (shNew f n).1.n ≤ f.n + 1 := by
 unfold shNew shiftNew
 split
 · exact zYa _
 · split
   · exact zYa _
   · split
     · exact zYa _
     · split
       · exact zYa _
       · split
         · exact zYa _
         · exact Nat.le_refl _
theorem amend_n (f : Fun) (y i m g k : Int) : (amendF f y i m g k).1.n ≤ f.n + 1 := by
 unfold amendF
 split
 · exact zYa _
 · split
   · exact zYa _
   · cases nodeAt f y i with
     | none => exact zYa _
     | some n =>
       simp only
       cases nodeAt f y n.parent with
       | none => exact limit_n _ _ _ _
       | some up =>
         simp only
         split
         · exact zYa _
         · exact limit_n _ _ _ _
theorem shAmend_n (f : Fun) (y i m : Int) : (shAmend f y i m).1.n ≤ f.n + 1 := amend_n _ _ _ _ _ _
theorem move_n (f : Fun) (y a b p ka kz : Int) : (moveF f y a b p ka kz).1.n ≤ f.n + 2 := by
 unfold moveF
 split
 · exact zSa _ _
 · split
   · exact zSa _ _
   · cases nodeAt f y a with
     | none => exact zSa _ _
     | some x =>
       cases nodeAt f y b with
       | none => exact zSa _ _
       | some z =>
         simp only
         have h1 := limit_n f x (w64 (x.limit - p)) ka
         have h2 := limit_n (limitF f x (w64 (x.limit - p)) ka).1 z (w64 (z.limit + p)) kz
         split
         · exact zSa _ _
         · split
           · show (limitF _ _ _ _).1.n ≤ _; omega
           · show (limitF _ _ _ _).1.n ≤ _; omega
theorem shMove_n (f : Fun) (y a b p : Int) : (shMove f y a b p).1.n ≤ f.n + 2 := move_n _ _ _ _ _ _ _
theorem cancel_n (f : Fun) (d i p : Int) : (cancelF f d i p).1.n ≤ f.n + 9 := by
 unfold cancelF
 split
 · exact zSa _ _
 · split
   · exact zSa _ _
   · rename_i dd l _
     split
     · exact zSa _ _
     · split
       · exact zSa _ _
       · split
         · exact zSa _ _
         · have h1 := chargeOf_n f dd.year (l.getD i.toNat .zero).node (lessC dd.kind p)
           split
           · show (chargeOf _ _ _ _).1.n ≤ _; omega
           · have h2 := docsSet_n (chargeOf f dd.year (l.getD i.toNat .zero).node (lessC dd.kind p)).1 d i { l.getD i.toNat .zero with can := w64 ((l.getD i.toNat .zero).can + p) }
             omega
theorem doF_n (f : Fun) (k : Ds) : (doF f k).1.n ≤ f.n + 60 := by
 have h1 := shNew_n f k.node
 have h2 := shAmend_n f k.year k.a k.n
 have h3 := shMove_n f k.year k.a k.b k.n
 have h4 := cancel_n f k.a k.b k.n
 have h5 := preNew_n f k.year [⟨0, 0, k.a, k.n⟩]
 rw [doF.eq_1]
 split
 · omega
 · split
   · show (shAmend _ _ _ _).1.n ≤ _; omega
   · split
     · show (shMove _ _ _ _ _).1.n ≤ _; omega
     · split
       · omega
       · show (preNew _ _ _).1.n ≤ _; omega
theorem isA_ds {y : AV} (h : IsA (.agg [.int .i64, .int .i64, .int .i64, .int .i64, .int .i64, .agg [.int .i64, .int .i64, .int .i64, .int .i64, .int .i64, .bool, .int .i64, .int .i64, .int .i64, .int .i64, .int .i64, .int .i64]]) y) : ∃ k : Ds, k.ok ∧ y = dsAv k := by
 simp only [IsA, IsAll] at h
 obtain ⟨ys, ⟨y1, r1, rfl, h1, y2, r2, rfl, h2, y3, r3, rfl, h3, y4, r4, rfl, h4, y5, r5, rfl, h5, y6, r6, rfl, h6, rfl⟩, rfl⟩ := h
 obtain ⟨a1, k1, rfl⟩ := isA_int (by simpa only [IsA] using h1)
 obtain ⟨a2, k2, rfl⟩ := isA_int (by simpa only [IsA] using h2)
 obtain ⟨a3, k3, rfl⟩ := isA_int (by simpa only [IsA] using h3)
 obtain ⟨a4, k4, rfl⟩ := isA_int (by simpa only [IsA] using h4)
 obtain ⟨a5, k5, rfl⟩ := isA_int (by simpa only [IsA] using h5)
 obtain ⟨n, hn, rfl⟩ := isA_nd (by simpa only [IsA, IsAll] using h6)
 exact ⟨⟨a1, a2, a3, a4, a5, n⟩, ⟨k2, k3, k4, k5, hn⟩, rfl⟩
theorem limit_tab {f : Fun} {n : Nd} {to g : Int} (h : ∃ l, TabIs f l) : ∃ l, TabIs (limitF f n to g).1 l := by
 obtain ⟨l, hl⟩ := h
 unfold limitF
 split
 · exact ⟨l, hl⟩
 · split
   · exact ⟨l, hl⟩
   · exact ⟨_, hl.put _ _⟩
theorem stays_do {f : Fun} {k : Ds} (h : Stays f) (ht : ∃ l, TabIs f l) (hk : k.ok) (he : (doF f k).2 = 0) : Stays (doF f k).1 := by
 rw [doF.eq_1] at he ⊢
 have hex : ∃ l, ScanIs f (keyOf 78 [2020]) l := ht.elim fun l hl => ⟨_, hl.scan _⟩
 split
 · rename_i h0
   rw [if_pos h0] at he
   exact stays_new h hk.2.2.2.2 (fun l hp hy hl => by rw [hy]; exact underF_eq hl _) hex he
 · rename_i h0
   rw [if_neg h0] at he
   split
   · rename_i h1
     rw [if_pos h1] at he
     obtain ⟨l, hl⟩ := hex
     have he' : (shAmend f k.year k.a k.n).2.2 = 0 := he
     have hy : k.year = 2020 := h.2.2 _ (by
       unfold shAmend amendF at he'
       by_cases hc : checkY f k.year ≠ 0
       · rw [if_pos hc] at he'; exact absurd he' hc
       · simpa using hc)
     refine stays_amend h (fun _ => hl) (fun n up h2 h3 => ?_) (fun n h2 => ?_) he'
     · rw [h2]
       show underF f k.year n.parent = _
       rw [nodeAt_id h3, hy]
       exact underF_eq hl _
     · rw [nodeAt_id h2, hy]
       exact underF_eq hl _
   · rename_i h1
     rw [if_neg h1] at he
     split
     · rename_i h2
       rw [if_pos h2] at he
       obtain ⟨l, hl⟩ := hex
       have he' : (shMove f k.year k.a k.b k.n).2.2 = 0 := he
       have hy : k.year = 2020 := h.2.2 _ (by
         unfold shMove moveF at he'
         by_cases hc : checkY f k.year ≠ 0
         · rw [if_pos hc] at he'; exact absurd he' hc
         · simpa using hc)
       refine stays_move h (fun _ => hl) (fun a h3 => ?_) (fun a z h3 h4 => ?_) he'
       · rw [nodeAt_id h3, hy]
         exact underF_eq hl _
       · obtain ⟨l2, hl2⟩ := limit_tab (n := a) (to := w64 (a.limit - k.n)) (g := underF f k.year k.a) ht
         refine ⟨_, hl2.scan _, ?_⟩
         rw [h3, nodeAt_id h4]
         show underF (limitF f a (w64 (a.limit - k.n)) (underF f k.year k.a)).1 k.year k.b = _
         rw [underF_eq (y := k.year) (l := l2.filter fun p => (keyOf 78 [2020]).isPrefixOf p.1) (by rw [hy]; rw [hy] at hl2; exact hl2.scan _), hy]
     · rename_i h2
       rw [if_neg h2] at he
       split
       · rename_i h3
         rw [if_pos h3] at he
         exact stays_cancel h he
       · rename_i h3
         rw [if_neg h3] at he
         refine stays_pre h (fun x hx => ?_) he
         rw [List.mem_singleton] at hx; subst hx
         exact ⟨show I64 0 by unfold I64; omega, show I64 0 by unfold I64; omega, hk.2.1, hk.2.2.2.1⟩
theorem ref_tab {h : Heap} {R : RId} {f : Fun} (hR : isRef h R f) : ∃ l, TabIs f l := by
 obtain ⟨lw, ln, lt, -, -, -, -, -, h6, -⟩ := hR
 exact ⟨ln, h6⟩
def shsSpec : Vm.Spec := fun args h Q => ∃ l : List Ds, l.length ≤ 9223372036854775807 ∧ (∀ k ∈ l, k.ok) ∧ args = [.sl 17 (l.map dsAv)] ∧ ∀ h', Q (.v (.bool true)) h'
theorem docAt_lines {f : Fun} {id : Int} {d : Dc} {l : List Dl} (h : docAt f id = some (d, l)) : 1 ≤ l.length := by
 unfold docAt at h
 cases h1 : docHead f id with
 | none => rw [h1] at h; cases h
 | some d1 =>
   obtain ⟨-, h5, h6⟩ := docHead_ok h1
   rw [h1, Option.bind_some] at h
   cases h2 : linesAt f id d1.lines.toNat with
   | none => rw [h2] at h; cases h
   | some l1 =>
     rw [h2] at h
     cases h
     have := linesAt_length h2
     omega
theorem does_shs : Does Tryz.prog 3 shsSpec := by
 refine dA (good_cons does_law34awake (good_cons does_begun34 (good_cons does_commit (good_cons does_rCom (good_cons does_do34 (good_cons does_abort (good_cons does_rAb (good_cons does_tall (good_cons does_tkids (good_cons does_given (good_cons does_used (good_cons does_docsGet (good_cons does_docsRight good_nil))))))))))))) Tryz.func3 rfl (by decide +kernel) ?_
 rintro args h Q ⟨l, hl, hlo, rfl, hq⟩
 refine ⟨by simp [Tryz.f3], ?_⟩
 simp -dsimp only [Vm.G, zA, zB, zC, zD, zE, zF, q3.1]
 have h0 := zKa (decide ((l.length : Int) > 40))
 rcases h0 with c2 | c2
 · simp -dsimp only [Vm.G, zA, zB, zC, zD, zE, zF, q3.1, c2]
   refine call_one (S := yesSpec) rfl _ GaL.rfl ⟨rfl, fun hz => ?_⟩
   simp -dsimp only [Vm.G, zA, zB, zC, zD, zE, zF, q3.1]
   exact hq _
 · have d2 := of_decide_eq_false c2
   simp -dsimp only [Vm.G, zA, zB, zC, zD, zE, zF, q3.1, c2]
   refine call_one (S := begun34Spec) rfl _ (.cons (.nil 12) .nil) ⟨[], by simp, by simp, rfl, fun V R0 h1 hB => ?_⟩
   have hB : BothW h1 V R0 begF noF := hB
   have hbn : begF.n ≤ 10 := by decide +kernel
   have hst := stays_beg
   generalize begF = f0 at hB hbn hst
   have hr0 : ∃ r0, r0 = R0.iv := ⟨_, rfl⟩
   rcases hr0 with ⟨r0, hr0⟩
   rw [← hr0]
   simp -dsimp only [Vm.G, zA, zB, zC, zD, zE, zF, q3.1]
   refine awp_loop (fun m s h' => ∃ (i : Nat) (R : RId) (f g : Fun), i + m = l.length ∧ R.iv = r0 ∧ BothW h' V R f g ∧ Stays f ∧ f.n ≤ 40 + 60 * i ∧ g.n ≤ 40 + 60 * i ∧ s = mk [(3, .ptr V.iv 0), (4, .ptr r0 0), (22, .sl 17 (l.map dsAv)), (23, .v (.int .i64 l.length)), (24, .v (.int .i64 (i : Nat)))])
     l.length _ (le_mk _ ?_) ⟨0, R0, f0, noF, by omega, hr0.symm, hB, hst, by omega, Nat.zero_le _, rfl⟩ ?_
   · simp only [Vm.D]
     try simp -dsimp only [Vm.G, zA, zB, zC, zD, zE, zF, q3.1]
     repeat' first | exact .refl _ | exact .nil _ _ _ (by decide) | refine ⟨?_, ?_⟩
   · clear hB hbn hr0 hst
     rintro m s h' ⟨i, R, f, g, hi, hr, hB, hS, hfn, hgn, rfl⟩
     simp -dsimp only [Vm.G, zA, zB, zC, zD, zE, zF, q3.1]
     refine cond_intro (fun hcc => ?_) (fun hcc => ?_)
     · have hlt : i < l.length := by have := of_decide_eq_true hcc; omega
       have hw := hwN i (by omega)
       have hk := hlo l[i] (zJb hlt)
       have hxe : ∃ k, l[i] = k := ⟨_, rfl⟩
       rcases hxe with ⟨k, hkx⟩
       rw [hkx] at hk
       clear hcc
       simp -dsimp only [Vm.G, zA, zB, zC, zD, zE, zF, q3.1]
       refine idx_map dsAv l i hlt ?_
       simp only [hkx, dsAv, dsCells, ndCells, zUa, zVa]
       simp -dsimp only [Vm.G, zA, zB, zC, zD, zE, zF, q3.1, AV.cells]
       refine call_one (S := commitSpec) rfl _ GaL.rfl ⟨V, f, rfl, hB.1.1, by omega, fun h1 g1 g2 g3 => ?_⟩
       have hR1 := hB.com g3
       simp -dsimp only [Vm.G, zA, zB, zC, zD, zE, zF, q3.1]
       refine call_one (S := rComSpec) rfl _ GaL.rfl ⟨R, f, by rw [hr], hR1, fun h2 k1 k2 k3 => ?_⟩
       have hB2 := both_turn hB.1 g1 g3 k1 k3 g2 k2 (.inl rfl)
       have hr2 : (rComId R h1).iv = r0 := hr
       generalize rComId R h1 = R2 at hB2 hr2
       clear hR1 k1 k2 k3 g1 g2 g3
       have hdn := doF_n f k
       have hsd := stays_do hS (ref_tab hB2.1.2.1) hk
       simp -dsimp only [Vm.G, zA, zB, zC, zD, zE, zF, q3.1]
       refine call_one (S := do34Spec) rfl _ GaL.rfl ⟨V, R2, f, f, k, hk, by rw [hr2]; rfl, hB2, by omega, fun h3 hB3 => ?_⟩
       generalize doF f k = q at hB3 hdn hsd ⊢
       rcases q with ⟨f3, qe⟩
       simp only at hB3 hdn hsd ⊢
       have h0 := zKa (qe != 0)
       rcases h0 with c | c
       · simp -dsimp only [Vm.G, zA, zB, zC, zD, zE, zF, q3.1, c]
         refine call_one (S := abortSpec) rfl _ GaL.rfl ⟨V, f3, f, rfl, hB3.1.1, hB3.2.1, fun h4 g1 g2 g3 => ?_⟩
         have hRW := hB3.abo g3
         rcases hRW with ⟨hR4, hW4⟩
         have g3' : Same h3 h4 [V.ic, V.im] := ⟨g3.1, fun i hi hm => g3.2 i hi (by simp at hm ⊢; exact hm.1)⟩
         simp -dsimp only [Vm.G, zA, zB, zC, zD, zE, zF, q3.1]
         refine call_one (S := rAbSpec) rfl _ GaL.rfl ⟨R2, f3, f, by rw [hr2], hR4, hW4, fun h5 k1 k2 k3 => ?_⟩
         have hB5 := both_turn hB3.1 g1 g3' k1 k3 g2 k2 (.inr rfl)
         have hr3 : (rAbId R2 h4).iv = r0 := hr2
         generalize rAbId R2 h4 = R3 at hB5 hr3
         clear hR4 hW4 g1 g2 g3 g3' k1 k2 k3 hB3 hB2
         simp -dsimp only [Vm.G, zA, zB, zC, zD, zE, zF, q3.1]
         refine call_one (S := tallSpec) rfl _ GaL.rfl ⟨V, f, 2020, rfl, hB5.1.1, by omega, fun kv h6 hsc hln hV6 hs6 => ?_⟩
         have hB6 := hB5.quiet hV6 hs6
         have hsl := stays_law hS hsc
         rcases hsl with ⟨hsl1, hsl2⟩
         have hnl : (allN 2020 kv).length ≤ kv.length := zQa ..
         have hne : ∃ N, allN 2020 kv = N := ⟨_, rfl⟩
         rcases hne with ⟨N, hN⟩
         rw [hN] at hsl1 hnl ⊢
         simp -dsimp only [Vm.G, zA, zB, zC, zD, zE, zF, q3.1]
         refine awp_loop (fun m s h' => ∃ j : Nat, j + m = N.length ∧ BothW h' V R3 f f ∧ s = mk [(3, .ptr V.iv 0), (4, .ptr r0 0), (6, .box (dsCells k)), (22, .sl 17 (l.map dsAv)), (23, .v (.int .i64 l.length)), (24, .v (.int .i64 i)), (46, .own true 29 12 (N.map ndAv)), (47, .v (.int .i64 N.length)), (48, .v (.int .i64 (j : Nat)))])
           N.length _ (le_mk _ ?_) ⟨0, by omega, hB6, rfl⟩ ?_
         · simp only [Vm.D, dsCells, ndCells, zUa, zVa]
           try simp -dsimp only [Vm.G, zA, zB, zC, zD, zE, zF, q3.1, dsCells, ndCells, zUa, zVa]
           repeat' first | exact .refl _ | exact .nil _ _ _ (by decide) | refine ⟨?_, ?_⟩
         · clear hB6 hV6 hs6
           rintro m s h7 ⟨j, hj, hB7, rfl⟩
           simp -dsimp only [Vm.G, zA, zB, zC, zD, zE, zF, q3.1]
           refine cond_intro (fun hcc => ?_) (fun hcc => ?_)
           · have hjl : j < N.length := by have := of_decide_eq_true hcc; omega
             have hwj := hwN j (by omega)
             have hxn := hsl1 N[j] (zJb hjl)
             have hgl : (N.map ndAv)[j]? = some (ndAv N[j]) := by simp [hjl]
             generalize N[j] = n at hxn hgl
             rcases hxn with ⟨hx1, hx2⟩
             clear hcc
             simp -dsimp only [Vm.G, zA, zB, zC, zD, zE, zF, q3.1]
             refine idxO_intro (by omega) (by simp; omega) ?_
             simp -dsimp only [Vm.G, zA, zB, zC, zD, zE, zF, q3.1, Int.toNat_natCast]
             refine eltA_intro hgl ?_
             simp only [ndAv, ndCells]
             simp -dsimp only [Vm.G, zA, zB, zC, zD, zE, zF, q3.1, AV.cells, zIb]
             refine draw_cont [10] (.take 0 (.take 1 (.take 2 (.take 5 (.take 6 (.alt 3 (.alt 4 (.take 7 (.take 8 (.take 9 (.alt 10 (.take 11 (.take 14 (.alt 12 (.alt 13 (.alt 15 (.take 16 (.take 17 (.take 18 (.done)))) .stop) (.alt 15 (.alt 13 (.take 16 (.take 17 (.take 18 (.done)))) .stop) (.stop))) (.alt 15 (.alt 12 (.alt 13 (.take 16 (.take 17 (.take 18 (.done)))) .stop) .stop) (.stop))))) .stop)))) .stop) .stop)))))) (fun s h8 => BothW h8 V R3 f f ∧ s 70 = .v (.bool false) ∧ s 3 = .ptr V.iv 0 ∧ s 4 = .ptr r0 0 ∧ s 6 = .box (dsCells k) ∧ s 22 = .sl 17 (l.map dsAv) ∧ s 23 = .v (.int .i64 l.length) ∧ s 24 = .v (.int .i64 i) ∧ s 46 = .own true 29 12 (N.map ndAv) ∧ s 47 = .v (.int .i64 N.length) ∧ s 48 = .v (.int .i64 j)) (by kernel_rfl) (by kernel_rfl) (by kernel_rfl) (by decide) ?_ ?_
             · clear hq
               have hae : ∃ a, n.abs = a := ⟨_, rfl⟩
               rcases hae with ⟨a, ha⟩
               have hgd : decide (w64s ((kidsN 2020 n.id kv).map (·.limit)) > n.limit) = false := decide_eq_false (by omega)
               have hud : a = true → decide (usedOf n > n.limit) = false := fun h => decide_eq_false (by have := hx2 (ha.trans h); omega)
               rw [ha]
               cases a
               · repeat' first
                   | with_reducible exact True.intro
                   | refine call_one (S := tkidsSpec) rfl _ GaL.rfl ⟨V, f, 2020, n.id, rfl, hB7.1.1, by omega, fun kv2 h8 hsc2 hln2 hV8 hs8 => ?_⟩
                   | (have hB8 := hB7.quiet hV8 hs8
                      have hkl : (kidsN 2020 n.id kv2).length ≤ kv2.length := Nat.le_trans (zXa ..) (zQa ..)
                      refine call_one (S := givenSpec) rfl _ GaL.rfl ⟨kidsN 2020 n.id kv2, by omega, rfl, ?_⟩
                      rw [hsc2.same hsc])
                   | simp -dsimp only [Vm.G, zA, zB, zC, zD, zE, zF, q3.1, hgd]
                   | refine tree_alt ?_ ?_
                   | refine ⟨hB8, ?_⟩
                   | repeat' first | rfl | exact True.intro | refine And.intro ?_ ?_
               · have hud := hud rfl
                 repeat' first
                   | with_reducible exact True.intro
                   | refine call_one (S := tkidsSpec) rfl _ GaL.rfl ⟨V, f, 2020, n.id, rfl, hB7.1.1, by omega, fun kv2 h8 hsc2 hln2 hV8 hs8 => ?_⟩
                   | (have hB8 := hB7.quiet hV8 hs8
                      have hkl : (kidsN 2020 n.id kv2).length ≤ kv2.length := Nat.le_trans (zXa ..) (zQa ..)
                      refine call_one (S := givenSpec) rfl _ GaL.rfl ⟨kidsN 2020 n.id kv2, by omega, rfl, ?_⟩
                      rw [hsc2.same hsc])
                   | (refine call_one (S := usedSpec) rfl _ GaL.rfl ⟨n, by simp only [ndCells, ha], ?_⟩)
                   | simp -dsimp only [Vm.G, zA, zB, zC, zD, zE, zF, q3.1, hgd, hud]
                   | refine tree_alt ?_ ?_
                   | refine ⟨hB8, ?_⟩
                   | repeat' first | rfl | exact True.intro | refine And.intro ?_ ?_
             · rintro s h8 ⟨hB8, e70, e3, e4, e6, e22, e23, e24, e46, e47, e48⟩
               simp -dsimp only [Vm.G, zA, zB, zC, zD, zE, zF, q3.1, e70, e3, e4, e6, e22, e23, e24, e46, e47, e48]
               refine kept_intro ⟨N.length - (j + 1), by omega, _, le_mk [(3, .ptr V.iv 0), (4, .ptr r0 0), (6, .box (dsCells k)), (22, .sl 17 (l.map dsAv)), (23, .v (.int .i64 l.length)), (24, .v (.int .i64 i)), (46, .own true 29 12 (N.map ndAv)), (47, .v (.int .i64 N.length)), (48, .v (.int .i64 (j + 1 : Nat)))] ?_, j + 1, by omega, hB8, rfl⟩
               simp only [Vm.D, hwj, e3, e4, e6, e22, e23, e24, e46, e47, e48]
               try simp -dsimp only [Vm.G, zA, zB, zC, zD, zE, zF, q3.1, hwj, e3, e4, e6, e22, e23, e24, e46, e47, e48]
               repeat' first | exact .refl _ | exact .nil _ _ _ (by decide) | refine ⟨?_, ?_⟩
           · have hge : ¬ j < N.length := by have := of_decide_eq_false hcc; omega
             clear hcc
             simp only [dsCells, ndCells, zUa, zVa]
             simp -dsimp only [Vm.G, zA, zB, zC, zD, zE, zF, q3.1]
             refine call_one (S := docsGetSpec) rfl _ GaL.rfl ⟨V, f, k.a, rfl, hB7.1.1, fun d dl hd hl6 hdl => ?_, fun hd => ?_⟩
             · have hr := hsl2 k.a d dl hd
               have hln := docAt_lines hd
               have hpe : ∃ x r, dl = x :: r := by
                 cases dl with
                 | nil => simp at hln
                 | cons x r => exact ⟨x, r, rfl⟩
               rcases hpe with ⟨x, r, hxr⟩
               have hxx := hr x (by rw [hxr]; simp)
               have hgl : (dl.map dlAv)[0]? = some (dlAv x) := by rw [hxr]; rfl
               have hlp : 0 < dl.length := by rw [hxr]; simp
               simp only [dcCells]
               simp -dsimp only [Vm.G, zA, zB, zC, zD, zE, zF, q3.1]
               refine idxO_intro (by omega) (by simp; omega) ?_
               simp -dsimp only [Vm.G, zA, zB, zC, zD, zE, zF, q3.1, Int.toNat_zero]
               refine eltA_intro hgl ?_
               simp only [dlAv, dlCells]
               simp -dsimp only [Vm.G, zA, zB, zC, zD, zE, zF, q3.1, AV.cells, zIb]
               refine call_one (S := rightDSpec) rfl _ GaL.rfl ⟨x, rfl, ?_⟩
               rw [hxx]
               simp -dsimp only [Vm.G, zA, zB, zC, zD, zE, zF, q3.1]
               refine kept_intro ⟨l.length - (i + 1), by omega, _, le_mk [(3, .ptr V.iv 0), (4, .ptr r0 0), (22, .sl 17 (l.map dsAv)), (23, .v (.int .i64 l.length)), (24, .v (.int .i64 (i + 1 : Nat)))] ?_, i + 1, R3, f, f, by omega, hr3, hB7, hS, by omega, by omega, rfl⟩
               simp only [Vm.D, hw]
               try simp -dsimp only [Vm.G, zA, zB, zC, zD, zE, zF, q3.1, hw]
               repeat' first | exact .refl _ | exact .nil _ _ _ (by decide) | refine ⟨?_, ?_⟩
             · simp only [dcCells]
               simp -dsimp only [Vm.G, zA, zB, zC, zD, zE, zF, q3.1]
               refine kept_intro ⟨l.length - (i + 1), by omega, _, le_mk [(3, .ptr V.iv 0), (4, .ptr r0 0), (22, .sl 17 (l.map dsAv)), (23, .v (.int .i64 l.length)), (24, .v (.int .i64 (i + 1 : Nat)))] ?_, i + 1, R3, f, f, by omega, hr3, hB7, hS, by omega, by omega, rfl⟩
               simp only [Vm.D, hw]
               try simp -dsimp only [Vm.G, zA, zB, zC, zD, zE, zF, q3.1, hw]
               repeat' first | exact .refl _ | exact .nil _ _ _ (by decide) | refine ⟨?_, ?_⟩
       · have hz : qe = 0 := by simpa using c
         have hS3 := hsd hz
         clear hB2
         simp -dsimp only [Vm.G, zA, zB, zC, zD, zE, zF, q3.1, c]
         refine call_one (S := tallSpec) rfl _ GaL.rfl ⟨V, f3, 2020, rfl, hB3.1.1, by omega, fun kv h6 hsc hln hV6 hs6 => ?_⟩
         have hB6 := hB3.quiet hV6 hs6
         have hsl := stays_law hS3 hsc
         rcases hsl with ⟨hsl1, hsl2⟩
         have hnl : (allN 2020 kv).length ≤ kv.length := zQa ..
         have hne : ∃ N, allN 2020 kv = N := ⟨_, rfl⟩
         rcases hne with ⟨N, hN⟩
         rw [hN] at hsl1 hnl ⊢
         simp -dsimp only [Vm.G, zA, zB, zC, zD, zE, zF, q3.1]
         refine awp_loop (fun m s h' => ∃ j : Nat, j + m = N.length ∧ BothW h' V R2 f3 f ∧ s = mk [(3, .ptr V.iv 0), (4, .ptr r0 0), (6, .box (dsCells k)), (22, .sl 17 (l.map dsAv)), (23, .v (.int .i64 l.length)), (24, .v (.int .i64 i)), (46, .own true 29 12 (N.map ndAv)), (47, .v (.int .i64 N.length)), (48, .v (.int .i64 (j : Nat)))])
           N.length _ (le_mk _ ?_) ⟨0, by omega, hB6, rfl⟩ ?_
         · simp only [Vm.D, dsCells, ndCells, zUa, zVa]
           try simp -dsimp only [Vm.G, zA, zB, zC, zD, zE, zF, q3.1, dsCells, ndCells, zUa, zVa]
           repeat' first | exact .refl _ | exact .nil _ _ _ (by decide) | refine ⟨?_, ?_⟩
         · clear hB6 hV6 hs6
           rintro m s h7 ⟨j, hj, hB7, rfl⟩
           simp -dsimp only [Vm.G, zA, zB, zC, zD, zE, zF, q3.1]
           refine cond_intro (fun hcc => ?_) (fun hcc => ?_)
           · have hjl : j < N.length := by have := of_decide_eq_true hcc; omega
             have hwj := hwN j (by omega)
             have hxn := hsl1 N[j] (zJb hjl)
             have hgl : (N.map ndAv)[j]? = some (ndAv N[j]) := by simp [hjl]
             generalize N[j] = n at hxn hgl
             rcases hxn with ⟨hx1, hx2⟩
             clear hcc
             simp -dsimp only [Vm.G, zA, zB, zC, zD, zE, zF, q3.1]
             refine idxO_intro (by omega) (by simp; omega) ?_
             simp -dsimp only [Vm.G, zA, zB, zC, zD, zE, zF, q3.1, Int.toNat_natCast]
             refine eltA_intro hgl ?_
             simp only [ndAv, ndCells]
             simp -dsimp only [Vm.G, zA, zB, zC, zD, zE, zF, q3.1, AV.cells, zIb]
             refine draw_cont [10] (.take 0 (.take 1 (.take 2 (.take 5 (.take 6 (.alt 3 (.alt 4 (.take 7 (.take 8 (.take 9 (.alt 10 (.take 11 (.take 14 (.alt 12 (.alt 13 (.alt 15 (.take 16 (.take 17 (.take 18 (.done)))) .stop) (.alt 15 (.alt 13 (.take 16 (.take 17 (.take 18 (.done)))) .stop) (.stop))) (.alt 15 (.alt 12 (.alt 13 (.take 16 (.take 17 (.take 18 (.done)))) .stop) .stop) (.stop))))) .stop)))) .stop) .stop)))))) (fun s h8 => BothW h8 V R2 f3 f ∧ s 70 = .v (.bool false) ∧ s 3 = .ptr V.iv 0 ∧ s 4 = .ptr r0 0 ∧ s 6 = .box (dsCells k) ∧ s 22 = .sl 17 (l.map dsAv) ∧ s 23 = .v (.int .i64 l.length) ∧ s 24 = .v (.int .i64 i) ∧ s 46 = .own true 29 12 (N.map ndAv) ∧ s 47 = .v (.int .i64 N.length) ∧ s 48 = .v (.int .i64 j)) (by kernel_rfl) (by kernel_rfl) (by kernel_rfl) (by decide) ?_ ?_
             · clear hq
               have hae : ∃ a, n.abs = a := ⟨_, rfl⟩
               rcases hae with ⟨a, ha⟩
               have hgd : decide (w64s ((kidsN 2020 n.id kv).map (·.limit)) > n.limit) = false := decide_eq_false (by omega)
               have hud : a = true → decide (usedOf n > n.limit) = false := fun h => decide_eq_false (by have := hx2 (ha.trans h); omega)
               rw [ha]
               cases a
               · repeat' first
                   | with_reducible exact True.intro
                   | refine call_one (S := tkidsSpec) rfl _ GaL.rfl ⟨V, f3, 2020, n.id, rfl, hB7.1.1, by omega, fun kv2 h8 hsc2 hln2 hV8 hs8 => ?_⟩
                   | (have hB8 := hB7.quiet hV8 hs8
                      have hkl : (kidsN 2020 n.id kv2).length ≤ kv2.length := Nat.le_trans (zXa ..) (zQa ..)
                      refine call_one (S := givenSpec) rfl _ GaL.rfl ⟨kidsN 2020 n.id kv2, by omega, rfl, ?_⟩
                      rw [hsc2.same hsc])
                   | simp -dsimp only [Vm.G, zA, zB, zC, zD, zE, zF, q3.1, hgd]
                   | refine tree_alt ?_ ?_
                   | refine ⟨hB8, ?_⟩
                   | repeat' first | rfl | exact True.intro | refine And.intro ?_ ?_
               · have hud := hud rfl
                 repeat' first
                   | with_reducible exact True.intro
                   | refine call_one (S := tkidsSpec) rfl _ GaL.rfl ⟨V, f3, 2020, n.id, rfl, hB7.1.1, by omega, fun kv2 h8 hsc2 hln2 hV8 hs8 => ?_⟩
                   | (have hB8 := hB7.quiet hV8 hs8
                      have hkl : (kidsN 2020 n.id kv2).length ≤ kv2.length := Nat.le_trans (zXa ..) (zQa ..)
                      refine call_one (S := givenSpec) rfl _ GaL.rfl ⟨kidsN 2020 n.id kv2, by omega, rfl, ?_⟩
                      rw [hsc2.same hsc])
                   | (refine call_one (S := usedSpec) rfl _ GaL.rfl ⟨n, by simp only [ndCells, ha], ?_⟩)
                   | simp -dsimp only [Vm.G, zA, zB, zC, zD, zE, zF, q3.1, hgd, hud]
                   | refine tree_alt ?_ ?_
                   | refine ⟨hB8, ?_⟩
                   | repeat' first | rfl | exact True.intro | refine And.intro ?_ ?_
             · rintro s h8 ⟨hB8, e70, e3, e4, e6, e22, e23, e24, e46, e47, e48⟩
               simp -dsimp only [Vm.G, zA, zB, zC, zD, zE, zF, q3.1, e70, e3, e4, e6, e22, e23, e24, e46, e47, e48]
               refine kept_intro ⟨N.length - (j + 1), by omega, _, le_mk [(3, .ptr V.iv 0), (4, .ptr r0 0), (6, .box (dsCells k)), (22, .sl 17 (l.map dsAv)), (23, .v (.int .i64 l.length)), (24, .v (.int .i64 i)), (46, .own true 29 12 (N.map ndAv)), (47, .v (.int .i64 N.length)), (48, .v (.int .i64 (j + 1 : Nat)))] ?_, j + 1, by omega, hB8, rfl⟩
               simp only [Vm.D, hwj, e3, e4, e6, e22, e23, e24, e46, e47, e48]
               try simp -dsimp only [Vm.G, zA, zB, zC, zD, zE, zF, q3.1, hwj, e3, e4, e6, e22, e23, e24, e46, e47, e48]
               repeat' first | exact .refl _ | exact .nil _ _ _ (by decide) | refine ⟨?_, ?_⟩
           · have hge : ¬ j < N.length := by have := of_decide_eq_false hcc; omega
             clear hcc
             simp only [dsCells, ndCells, zUa, zVa]
             simp -dsimp only [Vm.G, zA, zB, zC, zD, zE, zF, q3.1]
             refine call_one (S := docsGetSpec) rfl _ GaL.rfl ⟨V, f3, k.a, rfl, hB7.1.1, fun d dl hd hl6 hdl => ?_, fun hd => ?_⟩
             · have hr := hsl2 k.a d dl hd
               have hln := docAt_lines hd
               have hpe : ∃ x r, dl = x :: r := by
                 cases dl with
                 | nil => simp at hln
                 | cons x r => exact ⟨x, r, rfl⟩
               rcases hpe with ⟨x, r, hxr⟩
               have hxx := hr x (by rw [hxr]; simp)
               have hgl : (dl.map dlAv)[0]? = some (dlAv x) := by rw [hxr]; rfl
               have hlp : 0 < dl.length := by rw [hxr]; simp
               simp only [dcCells]
               simp -dsimp only [Vm.G, zA, zB, zC, zD, zE, zF, q3.1]
               refine idxO_intro (by omega) (by simp; omega) ?_
               simp -dsimp only [Vm.G, zA, zB, zC, zD, zE, zF, q3.1, Int.toNat_zero]
               refine eltA_intro hgl ?_
               simp only [dlAv, dlCells]
               simp -dsimp only [Vm.G, zA, zB, zC, zD, zE, zF, q3.1, AV.cells, zIb]
               refine call_one (S := rightDSpec) rfl _ GaL.rfl ⟨x, rfl, ?_⟩
               rw [hxx]
               simp -dsimp only [Vm.G, zA, zB, zC, zD, zE, zF, q3.1]
               refine kept_intro ⟨l.length - (i + 1), by omega, _, le_mk [(3, .ptr V.iv 0), (4, .ptr r0 0), (22, .sl 17 (l.map dsAv)), (23, .v (.int .i64 l.length)), (24, .v (.int .i64 (i + 1 : Nat)))] ?_, i + 1, R2, f3, f, by omega, hr2, hB7, hS3, by omega, by omega, rfl⟩
               simp only [Vm.D, hw]
               try simp -dsimp only [Vm.G, zA, zB, zC, zD, zE, zF, q3.1, hw]
               repeat' first | exact .refl _ | exact .nil _ _ _ (by decide) | refine ⟨?_, ?_⟩
             · simp only [dcCells]
               simp -dsimp only [Vm.G, zA, zB, zC, zD, zE, zF, q3.1]
               refine kept_intro ⟨l.length - (i + 1), by omega, _, le_mk [(3, .ptr V.iv 0), (4, .ptr r0 0), (22, .sl 17 (l.map dsAv)), (23, .v (.int .i64 l.length)), (24, .v (.int .i64 (i + 1 : Nat)))] ?_, i + 1, R2, f3, f, by omega, hr2, hB7, hS3, by omega, by omega, rfl⟩
               simp only [Vm.D, hw]
               try simp -dsimp only [Vm.G, zA, zB, zC, zD, zE, zF, q3.1, hw]
               repeat' first | exact .refl _ | exact .nil _ _ _ (by decide) | refine ⟨?_, ?_⟩
     · have hge : ¬ i < l.length := by have := of_decide_eq_false hcc; omega
       clear hcc
       simp -dsimp only [Vm.G, zA, zB, zC, zD, zE, zF, q3.1]
       refine call_one (S := yesSpec) rfl _ GaL.rfl ⟨rfl, fun hz => ?_⟩
       simp -dsimp only [Vm.G, zA, zB, zC, zD, zE, zF, q3.1]
       exact hq _
theorem shs_args {y0 : AV} (i0 : IsA (.sl (.agg [.int .i64, .int .i64, .int .i64, .int .i64, .int .i64, .agg [.int .i64, .int .i64, .int .i64, .int .i64, .int .i64, .bool, .int .i64, .int .i64, .int .i64, .int .i64, .int .i64, .int .i64]])) y0) {Q : AV → Heap → Prop} (hq : ∀ h', Q (.v (.bool true)) h') : shsSpec [y0] [] Q := by
 obtain ⟨l, h2, rfl, o2⟩ := isA_list _ dsAv (fun y hy => isA_ds hy) i0
 exact ⟨l, h2, o2, rfl, hq⟩
end Go.Proofs.Lx
