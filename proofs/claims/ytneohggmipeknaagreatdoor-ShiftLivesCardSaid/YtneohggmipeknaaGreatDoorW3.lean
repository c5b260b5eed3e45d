/- What the functions of the program do: their contracts. -/
import Derived.Test.YtneohggmipeknaaGreatDoorV2
import Derived.Test.YtneohggmipeknaaGreatDoorTFs
import Derived.Test.YtneohggmipeknaaGreatDoorW2
open List renaming lookup → zA
open Nat renaming reduceAdd → zB, reduceBEq → zC, reduceLeDiff → zF, le_add_right → zJa, le_succ → zKa
open Int renaming reduceBNe → zD, reduceBEq → zE
open Bool renaming true_beq → zG, false_beq → zH, eq_false_or_eq_true → zIa
set_option maxRecDepth 20000
set_option maxHeartbeats 16000000
set_option linter.unusedSimpArgs false
set_option linter.unusedVariables false
namespace Go.Proofs.Lx
open Go.Vm
attribute [local irreducible] awpArr awpBin awpMake awpAppend awpCvX awpStrOf awpBinX awpSlice awpBS awpStore awpAlloc awpCopy awpIndex awpDraw awpIdxX awpFa awpField awpLookup awpUpdate awpDelete awpClear awpRange awpNext awpEntry awpBuild awpClearS awpIdxL awpTree appB awpIdxO eltA treeA
def keepF : Tab := tab [(153, predSpec fixedP)]
theorem good_keepF : Good keepF := good_cons does_fixedC good_nil
def keepF2 : Tab := tab [(205, orS (ixISpec keepF) ixINil)]
theorem good_keepF2 : Good keepF2 := good_cons (does_or (does_ixI good_keepF) does_ixINil) good_nil
theorem does_delIntsF : Does Tryz.prog 154 (orS (delISpec keepF) delINil) :=
 does_or (does_delI (T2 := keepF) good_keepF2 rfl) (does_delINil (T2 := keepF) good_keepF2 rfl)
theorem does_cOwnF : Does Tryz.prog 78 cOwnSpec := by
 refine dA (good_cons does_cAll (good_cons does_delIntsF good_nil)) Tryz.func78 rfl (by decide +kernel) ?_
 rintro args h Q ⟨V, f, rfl, hV, hn, hfx, hq⟩
 refine ⟨by simp [Tryz.f78], ?_⟩
 simp -dsimp only [Vm.G, zA, zB, zC, zD, zE, zF, q78.1]
 refine call_one (S := cAllSpec) rfl _ GaL.rfl ⟨V, f, 79, rfl, hV, hn, fun l h1 hsc hln hV1 hs1 => ?_⟩
 have hfl := hfx l hsc
 have hq1 := hq l h1 hsc hln hV1 hs1
 have hal : (allF l).length ≤ l.length := List.length_filterMap_le ..
 generalize allF l = A at hfl hq1 hal ⊢
 simp -dsimp only [Vm.G, zA, zB, zC, zD, zE, zF, q78.1]
 refine call_in _ _ _ ?_
 simp -dsimp only [Vm.G, zA, zB, zC, zD, zE, zF, q78.1, callI_eq, ownSl_own, ownSl_alias]
 refine callI_ret (S := orS (delISpec keepF) delINil) (xs' := A.map encI) rfl (fun x hx => hx) (fun hx => ⟨hx, fun Q' hq' => .inr ⟨_, rfl, hq'⟩⟩)
   (fun c hc Q' hq' => .inl ⟨153, fixedP, A, h1.length, c, 3, c * 1, rfl, by rw [List.length_map], by rw [heap_last, flat_ints], by omega, hfl, ?_⟩) ?_
 · have := hq' (flat (A.map encI)) (by rw [flat_ints, List.take_of_length_le (by simp)])
   rw [List.length_map] at this
   exact this
 · simp -dsimp only [Vm.G, zA, zB, zC, zD, zE, zF, q78.1]
   exact hq1
theorem does_cNewObjF : Does Tryz.prog 26 cNewObjSpec := by
 refine dA (good_cons does_objP (good_cons does_cObj (good_cons does_cOwnF (good_cons does_key (good_cons does_vput good_nil))))) Tryz.func26 rfl (by decide +kernel) ?_
 rintro args h Q ⟨V, f, n, rfl, hV, hn, ho, hno, hem, hq⟩
 refine ⟨by simp [Tryz.f26], ?_⟩
 simp -dsimp only [Vm.G, zA, zB, zC, zD, zE, zF, q26.1]
 refine call_one (S := predSpec objP) rfl _ GaL.rfl ⟨n, rfl, ?_⟩
 rw [ho]
 simp -dsimp only [Vm.G, zA, zB, zC, zD, zE, zF, q26.1]
 refine call_one (S := cObjSpec) rfl _ GaL.rfl ⟨V, f, n, rfl, hV, ?_⟩
 rw [hno]
 simp -dsimp only [Vm.G, zA, zB, zC, zD, zE, zF, q26.1]
 refine call_one (S := cOwnSpec) rfl _ GaL.rfl ⟨V, f, rfl, hV, hn, fun l hl x hx => (by rw [hem l hl] at hx; cases hx), fun l h1 hsc hln hV1 hs1 => ?_⟩
 rw [hem l hsc]
 have k0 : decide (((0 : Nat) : Int) ≥ 60) = false := by decide
 simp -dsimp only [Vm.G, zA, zB, zC, zD, zE, zF, q26.1, List.map_nil, List.length_nil, k0]
 refine bs_intro zr3 (by decide) (by decide) rfl rfl (by simp [solid, AV.cells]) ?_
 simp -dsimp only [Vm.G, zA, zB, zC, zD, zE, zF, q26.1]
 refine call_one (S := keySpec) rfl _ GaL.rfl ⟨79, [n], by simp, rfl, ?_⟩
 simp -dsimp only [Vm.G, zA, zB, zC, zD, zE, zF, q26.1]
 refine call_one (S := vputSpec) rfl _ (.cons (.refl _) (.cons (.refl _) (.cons (.nil 1) .nil))) ⟨V, f, objK n, [], rfl, hV1, fun _ h2 g1 g2 => ?_, fun hc => ?_⟩
 · simp -dsimp only [Vm.G, zA, zB, zC, zD, zE, zF, q26.1]
   exact hq h2 g1 ((Same.wide hs1).trans g2)
 · have : rightKV (objK n) [] = true := by
     have hl : (objK n).length = 5 := key1_length 79 n
     simp [rightKV, hl]
   rw [this] at hc; cases hc
def rcNewObjSpec : Vm.Spec := fun args h Q => ∃ (R : RId) (f : Fun) (n : Int), args = [.ptr R.iv 0, .v (.int .i64 n)] ∧ isRef h R f ∧ f.n ≤ 536870912 ∧ objP n = true ∧ objOk f n = false ∧ (∀ l, ScanIs f [79] l → allF l = []) ∧
 ∀ h', isRef h' R (upd f (objK n) (some [])) → Same h h' (rFoot R) → Q (.v (.int .i64 0)) h'
theorem does_rcNewObj : Does Tryz.prog 27 rcNewObjSpec := by
 refine dA (good_cons does_rObj16 (good_cons does_rcObj (good_cons does_rcAll (good_cons does_rKey (good_cons does_rPut good_nil))))) Tryz.func27 rfl (by decide +kernel) ?_
 rintro args h Q ⟨R, f, n, rfl, hR, hn, ho, hno, hem, hq⟩
 refine ⟨by simp [Tryz.f27], ?_⟩
 simp -dsimp only [Vm.G, zA, zB, zC, zD, zE, zF, q27.1]
 refine call_one (S := predSpec objP) rfl _ GaL.rfl ⟨n, rfl, ?_⟩
 rw [ho]
 simp -dsimp only [Vm.G, zA, zB, zC, zD, zE, zF, q27.1]
 refine call_one (S := rcObjSpec) rfl _ GaL.rfl ⟨R, f, n, rfl, hR, hn, ?_⟩
 rw [hno]
 simp -dsimp only [Vm.G, zA, zB, zC, zD, zE, zF, q27.1]
 refine call_one (S := rcAllSpec) rfl _ GaL.rfl ⟨R, f, 79, rfl, hR, hn, fun l hsc hln => ?_⟩
 rw [hem l hsc]
 simp -dsimp only [Vm.G, zA, zB, zC, zD, zE, zF, q27.1, List.map_nil]
 refine awp_loop (fun m s h' => h' = h ∧ s = mk [(0, .ptr R.iv 0), (1, .v (.int .i64 n)), (5, .v (.int .i64 0)), (6, .own true 3 1 []), (7, .v (.int .i64 0))])
   0 _ (le_mk _ ?_) ⟨rfl, rfl⟩ ?_
 · simp only [Vm.D]
   try simp -dsimp only [Vm.G, zA, zB, zC, zD, zE, zF, q27.1]
   repeat' first | exact .refl _ | exact .nil _ _ _ (by decide) | refine ⟨?_, ?_⟩
 · rintro m s h' ⟨rfl, rfl⟩
   simp -dsimp only [Vm.G, zA, zB, zC, zD, zE, zF, q27.1, List.length_nil]
   refine cond_intro (fun hcc => ?_) (fun hcc => ?_)
   · have := of_decide_eq_true hcc
     omega
   · have c60 : decide ((0 : Int) ≥ 60) = false := by decide
     simp -dsimp only [Vm.G, zA, zB, zC, zD, zE, zF, q27.1, c60]
     refine bs_intro zr3 (by decide) (by decide) rfl rfl (by simp [solid, AV.cells]) ?_
     simp -dsimp only [Vm.G, zA, zB, zC, zD, zE, zF, q27.1]
     refine call_one (S := keySpec) rfl _ GaL.rfl ⟨79, [n], by simp, rfl, ?_⟩
     simp -dsimp only [Vm.G, zA, zB, zC, zD, zE, zF, q27.1]
     refine call_one (S := rPutSpec) rfl _ (.cons (.refl _) (.cons (.refl _) (.cons (.nil 1) .nil))) ⟨R, f, objK n, [], rfl, hR, hn, fun _ h2 g1 g2 => ?_, fun hc => ?_⟩
     · simp -dsimp only [Vm.G, zA, zB, zC, zD, zE, zF, q27.1]
       exact hq h2 g1 g2
     · have : rightKV (objK n) [] = true := by
         have hl : (objK n).length = 5 := key1_length 79 n
         simp [rightKV, hl]
       rw [this] at hc; cases hc
def y20F : Fun := (openOf noF 2020).1
theorem y20_app (q : List UInt8) : y20F q = if q = yrK 2020 then some (be 8 1) else none := by
 show (openOf noF 2020).1 q = _
 rw [open20]
 rfl
theorem y20_pre {t : UInt8} (ht : t ≠ 89) {l : List KV} (hl : ScanIs y20F [t] l) : l = [] := by
 cases l with
 | nil => rfl
 | cons p r =>
   obtain ⟨h1, h2⟩ := (hl.2 p.1 p.2).1 (List.mem_cons_self ..)
   rw [y20_app] at h1
   split at h1
   · rename_i e
     rw [e] at h2
     have h2 : (t == 89 && true) = true := h2
     simp at h2
     exact absurd h2 ht
   · cases h1
def bF1 : Fun := upd y20F (fundK 100) (some [97])
theorem bf_new : newFund y20F 100 [97] = (bF1, 0) := by
 unfold newFund
 rw [if_pos ⟨by decide, by decide⟩, if_neg ?_, if_neg ?_]
 · rfl
 · rintro ⟨l, hl, hn⟩
   rw [y20_pre (by decide) hl] at hn
   simp at hn
 · intro h
   rw [y20_app, if_neg (by decide)] at h
   exact h rfl
theorem bf_objs {l : List KV} (hl : ScanIs bF1 [79] l) : allF l = [] := by
 have : l = [] := by
   cases l with
   | nil => rfl
   | cons p r =>
     obtain ⟨h1, h2⟩ := (hl.2 p.1 p.2).1 (List.mem_cons_self ..)
     unfold bF1 at h1
     rw [upd_app] at h1
     split at h1
     · rename_i e
       rw [e] at h2
       exact absurd h2 (by decide)
     · rw [y20_app] at h1
       split at h1
       · rename_i e
         rw [e] at h2
         exact absurd h2 (by decide)
       · cases h1
 rw [this]; rfl
theorem bf_obj : objOk bF1 5010 = false := by decide +kernel
def beg34 (l : List Nd) : Fun := l.foldl putN begF
theorem beg34_n (l : List Nd) : (beg34 l).n ≤ l.length + 10 := by
 have : ∀ (l : List Nd) (f : Fun), (l.foldl putN f).n = f.n + l.length := by
   intro l
   induction l with
   | nil => intro f; rfl
   | cons x r ih =>
     intro f
     rw [List.foldl_cons, ih]
     show f.n + 1 + r.length = f.n + (r.length + 1)
     omega
 unfold beg34
 rw [this]
 have : begF.n ≤ 10 := by decide +kernel
 omega
def begun34Spec : Vm.Spec := fun args h Q => ∃ l : List Nd, l.length ≤ 1048576 ∧ (∀ n ∈ l, n.ok) ∧ args = [.sl 12 (l.map ndAv)] ∧ ∀ (V : VId) (R : RId) (h' : Heap), BothW h' V R (beg34 l) noF → Q (.tup [.ptr V.iv 0, .ptr R.iv 0]) h'
theorem does_begun34 : Does Tryz.prog 6 begun34Spec := by
 refine dA (good_cons does_vnewW (good_cons does_rNewW (good_cons does_yOpen (good_cons does_rOpen (good_cons does_cNew (good_cons does_rcNew (good_cons does_cNewObjF (good_cons does_rcNewObj (good_cons does_tput (good_cons does_rtPut good_nil)))))))))) Tryz.func6 rfl (by decide +kernel) ?_
 rintro args h Q ⟨l, hl, hok, rfl, hq⟩
 refine ⟨by simp [Tryz.f6], ?_⟩
 simp -dsimp only [Vm.G, zA, zB, zC, zD, zE, zF, q6.1]
 refine call_one (S := vnewWSpec) rfl _ GaL.rfl ⟨rfl, fun V h00 hV00 hm00 => ?_⟩
 simp -dsimp only [Vm.G, zA, zB, zC, zD, zE, zF, q6.1]
 refine call_one (S := rNewWSpec) rfl _ (.cons (.nil 2) .nil) ⟨V, rfl, hV00, hm00, fun R h0 hB0 => ?_⟩
 clear hV00 hm00
 simp -dsimp only [Vm.G, zA, zB, zC, zD, zE, zF, q6.1]
 refine call_one (S := yOpenSpec) rfl _ GaL.rfl ⟨V, noF, 2020, rfl, hB0.1.1, fun h1 g1 g2 => ?_⟩
 simp -dsimp only [Vm.G, zA, zB, zC, zD, zE, zF, q6.1]
 refine call_one (S := rOpenSpec) rfl _ GaL.rfl ⟨R, noF, 2020, rfl, hB0.1.view g1 g2, by decide, fun h2 g3 g4 => ?_⟩
 have hB1 : BothW h2 V R y20F noF := hB0.step g1 g2 g3 g4
 clear hB0 g1 g2 g3 g4
 simp -dsimp only [Vm.G, zA, zB, zC, zD, zE, zF, q6.1]
 refine call_one (S := cNewSpec) rfl _ GaL.rfl ⟨V, y20F, 100, [97], by decide, rfl, hB1.1.1, by decide, fun h3 g1 g2 => ?_⟩
 rw [bf_new] at g1 ⊢
 simp -dsimp only [Vm.G, zA, zB, zC, zD, zE, zF, q6.1]
 refine call_one (S := rcNewSpec) rfl _ GaL.rfl ⟨R, y20F, 100, [97], by decide, rfl, hB1.1.view g1 g2, by decide, fun h4 g3 g4 => ?_⟩
 rw [bf_new] at g3 ⊢
 have hB2 : BothW h4 V R bF1 noF := hB1.step g1 g2 g3 g4
 clear hB1 g1 g2 g3 g4
 simp -dsimp only [Vm.G, zA, zB, zC, zD, zE, zF, q6.1]
 refine call_one (S := cNewObjSpec) rfl _ GaL.rfl ⟨V, bF1, 5010, rfl, hB2.1.1, by decide, by decide, bf_obj, fun l hl => bf_objs hl, fun h5 g1 g2 => ?_⟩
 simp -dsimp only [Vm.G, zA, zB, zC, zD, zE, zF, q6.1]
 refine call_one (S := rcNewObjSpec) rfl _ GaL.rfl ⟨R, bF1, 5010, rfl, hB2.1.view g1 g2, by decide, by decide, bf_obj, fun l hl => bf_objs hl, fun h6 g3 g4 => ?_⟩
 have hB3 : BothW h6 V R begF noF := hB2.step g1 g2 g3 g4
 clear hB2 g1 g2 g3 g4
 simp -dsimp only [Vm.G, zA, zB, zC, zD, zE, zF, q6.1]
 refine awp_loop (fun m s h' => ∃ i : Nat, i + m = l.length ∧ BothW h' V R (beg34 (l.take i)) noF ∧ s = mk [(4, .ptr V.iv 0), (5, .ptr R.iv 0), (22, .sl 12 (l.map ndAv)), (23, .v (.int .i64 l.length)), (24, .v (.int .i64 (i : Nat)))])
   l.length _ (le_mk _ ?_) ⟨0, by omega, hB3, rfl⟩ ?_
 · simp only [Vm.D]
   try simp -dsimp only [Vm.G, zA, zB, zC, zD, zE, zF, q6.1]
   repeat' first | exact .refl _ | exact .nil _ _ _ (by decide) | refine ⟨?_, ?_⟩
 · clear hB3
   rintro m s h' ⟨i, hi, hB, rfl⟩
   simp -dsimp only [Vm.G, zA, zB, zC, zD, zE, zF, q6.1]
   refine cond_intro (fun hcc => ?_) (fun hcc => ?_)
   · have hlt : i < l.length := by have := of_decide_eq_true hcc; omega
     have hw := hwN i (by omega)
     have hfn := beg34_n (l.take i)
     have htl : (l.take i).length ≤ i := by rw [List.length_take]; omega
     have est : beg34 (l.take (i + 1)) = putN (beg34 (l.take i)) l[i] := by
       unfold beg34
       rw [List.take_succ_eq_append_getElem hlt, List.foldl_append]; rfl
     have ho := hok l[i] (List.getElem_mem hlt)
     have hxe : ∃ n, l[i] = n := ⟨_, rfl⟩
     rcases hxe with ⟨n, hnx⟩
     rw [hnx] at est ho
     simp -dsimp only [Vm.G, zA, zB, zC, zD, zE, zF, q6.1]
     refine idx_map ndAv l i hlt ?_
     have hok2 : (yr20 n).ok := ⟨by show I64 2020; unfold I64; omega, ho.2⟩
     simp only [hnx, ndAv, ndCells]
     simp -dsimp only [Vm.G, zA, zB, zC, zD, zE, zF, q6.1, AV.cells]
     refine call_one (S := tputSpec) rfl _ GaL.rfl ⟨V, beg34 (l.take i), yr20 n, rfl, hok2, hB.1.1, fun h2 g1 g2 => ?_⟩
     simp -dsimp only [Vm.G, zA, zB, zC, zD, zE, zF, q6.1]
     refine call_one (S := rtPutSpec) rfl _ GaL.rfl ⟨R, beg34 (l.take i), yr20 n, rfl, hok2, hB.1.view g1 g2, by omega, fun h3 g3 g4 => ?_⟩
     have hB2 := hB.step g1 g2 g3 g4
     have hB2 : BothW h3 V R (beg34 (l.take (i + 1))) noF := by rw [est]; exact hB2
     simp -dsimp only [Vm.G, zA, zB, zC, zD, zE, zF, q6.1]
     refine kept_intro ⟨l.length - (i + 1), by omega, _, le_mk [(4, .ptr V.iv 0), (5, .ptr R.iv 0), (22, .sl 12 (l.map ndAv)), (23, .v (.int .i64 l.length)), (24, .v (.int .i64 (i + 1 : Nat)))] ?_, i + 1, by omega, hB2, rfl⟩
     simp only [Vm.D, hw]
     try simp -dsimp only [Vm.G, zA, zB, zC, zD, zE, zF, q6.1, hw]
     repeat' first | exact .refl _ | exact .nil _ _ _ (by decide) | refine ⟨?_, ?_⟩
   · have hge : ¬ i < l.length := by have := of_decide_eq_false hcc; omega
     rw [List.take_of_length_le (by omega)] at hB
     simp -dsimp only [Vm.G, zA, zB, zC, zD, zE, zF, q6.1]
     exact hq V R h' hB
structure Ds where
 op : Int
 year : Int
 a : Int
 b : Int
 n : Int
 node : Nd
def dsCells (k : Ds) : List AV := [.v (.int .i64 k.op), .v (.int .i64 k.year), .v (.int .i64 k.a), .v (.int .i64 k.b), .v (.int .i64 k.n)] ++ ndCells k.node
def dsAv (k : Ds) : AV := .agg (dsCells k)
def Ds.ok (k : Ds) : Prop := I64 k.year ∧ I64 k.a ∧ I64 k.b ∧ I64 k.n ∧ k.node.ok
noncomputable def doF (f : Fun) (k : Ds) : Fun × Int :=
 if k.op = 0 ∨ k.op = 1 then shNew f k.node
 else if k.op = 2 then ((shAmend f k.year k.a k.n).1, (shAmend f k.year k.a k.n).2.2)
 else if k.op = 3 then ((shMove f k.year k.a k.b k.n).1, (shMove f k.year k.a k.b k.n).2.2)
 else if k.op = 4 then cancelF f k.a k.b k.n
 else ((preNew f k.year [⟨0, 0, k.a, k.n⟩]).1, (preNew f k.year [⟨0, 0, k.a, k.n⟩]).2.2.2)
def do34Spec : Vm.Spec := fun args h Q => ∃ (V : VId) (R : RId) (f g : Fun) (k : Ds), k.ok ∧ args = [.ptr V.iv 0, .ptr R.iv 0, dsAv k] ∧ BothW h V R f g ∧ f.n ≤ 1048576 ∧
 ∀ h', BothW h' V R (doF f k).1 g → Q (.tup [.v (.int .i64 (doF f k).2), .v (.bool true)]) h'
theorem does_do34 : Does Tryz.prog 9 do34Spec := by
 refine dA (good_cons does_shNew (good_cons does_rShNew (good_cons does_shAmend (good_cons does_rShAmend (good_cons does_shMove (good_cons does_rShMove (good_cons does_cancel (good_cons does_rCancel (good_cons does_preNew (good_cons does_rPreNew good_nil)))))))))) Tryz.func9 rfl (by decide +kernel) ?_
 rintro args h Q ⟨V, R, f, g, k, ⟨o1, o2, o3, o4, o5⟩, rfl, hB, hn, hq⟩
 refine ⟨by simp [Tryz.f9], ?_⟩
 simp only [dsAv, dsCells, ndCells, List.cons_append, List.nil_append]
 have hd0 := doF.eq_1 f k
 have h0 := zIa (k.op == 0)
 rcases h0 with c0 | c0
 · have hd : doF f k = shNew f k.node := by rw [hd0, if_pos (.inl (by simpa using c0))]
   simp -dsimp only [Vm.G, zA, zB, zC, zD, zE, zF, q9.1, c0]
   refine call_one (S := shNewSpec) rfl _ GaL.rfl ⟨V, f, k.node, o5, rfl, hB.1.1, by omega, fun h2 g1 g2 => ?_⟩
   simp -dsimp only [Vm.G, zA, zB, zC, zD, zE, zF, q9.1]
   refine call_one (S := rShNewSpec) rfl _ GaL.rfl ⟨R, f, k.node, o5, rfl, hB.1.view g1 g2, by omega, fun h3 g3 g4 => ?_⟩
   have hB2 := hB.step g1 g2 g3 g4
   rw [hd] at hq
   simp -dsimp only [Vm.G, zA, zB, zC, zD, zE, zF, q9.1, bool_eql, beq_self_eq_true]
   exact hq h3 hB2
 · have d0 : ¬ k.op = 0 := by simpa using c0
   have h0 := zIa (k.op == 1)
   rcases h0 with c1 | c1
   · have hd : doF f k = shNew f k.node := by rw [hd0, if_pos (.inr (by simpa using c1))]
     simp -dsimp only [Vm.G, zA, zB, zC, zD, zE, zF, q9.1, c0, c1]
     refine call_one (S := shNewSpec) rfl _ GaL.rfl ⟨V, f, k.node, o5, rfl, hB.1.1, by omega, fun h2 g1 g2 => ?_⟩
     simp -dsimp only [Vm.G, zA, zB, zC, zD, zE, zF, q9.1]
     refine call_one (S := rShNewSpec) rfl _ GaL.rfl ⟨R, f, k.node, o5, rfl, hB.1.view g1 g2, by omega, fun h3 g3 g4 => ?_⟩
     have hB2 := hB.step g1 g2 g3 g4
     rw [hd] at hq
     simp -dsimp only [Vm.G, zA, zB, zC, zD, zE, zF, q9.1, bool_eql, beq_self_eq_true]
     exact hq h3 hB2
   · have d1 : ¬ k.op = 1 := by simpa using c1
     have h0 := zIa (k.op == 2)
     rcases h0 with c2 | c2
     · have hd : doF f k = ((shAmend f k.year k.a k.n).1, (shAmend f k.year k.a k.n).2.2) := by rw [hd0, if_neg (by omega), if_pos (by simpa using c2)]
       simp -dsimp only [Vm.G, zA, zB, zC, zD, zE, zF, q9.1, c0, c1, c2]
       refine call_one (S := shAmendSpec) rfl _ GaL.rfl ⟨V, f, k.year, k.a, k.n, o4, rfl, hB.1.1, by omega, fun h2 g1 g2 => ?_⟩
       simp -dsimp only [Vm.G, zA, zB, zC, zD, zE, zF, q9.1]
       refine call_one (S := rShAmendSpec) rfl _ GaL.rfl ⟨R, f, k.year, k.a, k.n, o4, rfl, hB.1.view g1 g2, by omega, fun h3 g3 g4 => ?_⟩
       have hB2 := hB.step g1 g2 g3 g4
       rw [hd] at hq
       simp -dsimp only [Vm.G, zA, zB, zC, zD, zE, zF, q9.1, bool_eql, beq_self_eq_true]
       exact hq h3 hB2
     · have d2 : ¬ k.op = 2 := by simpa using c2
       have h0 := zIa (k.op == 3)
       rcases h0 with c3 | c3
       · have hd : doF f k = ((shMove f k.year k.a k.b k.n).1, (shMove f k.year k.a k.b k.n).2.2) := by rw [hd0, if_neg (by omega), if_neg d2, if_pos (by simpa using c3)]
         simp -dsimp only [Vm.G, zA, zB, zC, zD, zE, zF, q9.1, c0, c1, c2, c3]
         refine call_one (S := shMoveSpec) rfl _ GaL.rfl ⟨V, f, k.year, k.a, k.b, k.n, rfl, hB.1.1, by omega, fun h2 g1 g2 => ?_⟩
         simp -dsimp only [Vm.G, zA, zB, zC, zD, zE, zF, q9.1]
         refine call_one (S := rShMoveSpec) rfl _ GaL.rfl ⟨R, f, k.year, k.a, k.b, k.n, rfl, hB.1.view g1 g2, by omega, fun h3 g3 g4 => ?_⟩
         have hB2 := hB.step g1 g2 g3 g4
         rw [hd] at hq
         simp -dsimp only [Vm.G, zA, zB, zC, zD, zE, zF, q9.1, bool_eql, beq_self_eq_true]
         exact hq h3 hB2
       · have d3 : ¬ k.op = 3 := by simpa using c3
         have h0 := zIa (k.op == 4)
         rcases h0 with c4 | c4
         · have hd : doF f k = cancelF f k.a k.b k.n := by rw [hd0, if_neg (by omega), if_neg d2, if_neg d3, if_pos (by simpa using c4)]
           simp -dsimp only [Vm.G, zA, zB, zC, zD, zE, zF, q9.1, c0, c1, c2, c3, c4]
           refine call_one (S := cancelSpec) rfl _ GaL.rfl ⟨V, f, k.a, k.b, k.n, o2, o3, rfl, hB.1.1, by omega, fun h2 g1 g2 => ?_⟩
           simp -dsimp only [Vm.G, zA, zB, zC, zD, zE, zF, q9.1]
           refine call_one (S := rCancelSpec) rfl _ GaL.rfl ⟨R, f, k.a, k.b, k.n, o2, o3, rfl, hB.1.view g1 g2, by omega, fun h3 g3 g4 => ?_⟩
           have hB2 := hB.step g1 g2 g3 g4
           rw [hd] at hq
           simp -dsimp only [Vm.G, zA, zB, zC, zD, zE, zF, q9.1, bool_eql, beq_self_eq_true]
           exact hq h3 hB2
         · have d4 : ¬ k.op = 4 := by simpa using c4
           have hd : doF f k = ((preNew f k.year [⟨0, 0, k.a, k.n⟩]).1, (preNew f k.year [⟨0, 0, k.a, k.n⟩]).2.2.2) := by rw [hd0, if_neg (by omega), if_neg d2, if_neg d3, if_neg d4]
           have hlo : ∀ x ∈ ([⟨0, 0, k.a, k.n⟩] : List Ln), x.ok := fun x hx => by
             rw [List.mem_singleton] at hx; subst hx
             exact ⟨show I64 0 by unfold I64; omega, show I64 0 by unfold I64; omega, o2, o4⟩
           simp -dsimp only [Vm.G, zA, zB, zC, zD, zE, zF, q9.1, c0, c1, c2, c3, c4]
           refine bs_intro zr85 (by decide) (by decide) rfl rfl (by simp [solid, AV.cells]) ?_
           simp -dsimp only [Vm.G, zA, zB, zC, zD, zE, zF, q9.1]
           refine call_one (S := preNewSpec) rfl _ GaL.rfl ⟨V, f, k.year, [⟨0, 0, k.a, k.n⟩], o1, by simp, hlo, rfl, hB.1.1, fun h2 g1 g2 => ?_⟩
           simp -dsimp only [Vm.G, zA, zB, zC, zD, zE, zF, q9.1]
           refine call_one (S := rPreNewSpec) rfl _ GaL.rfl ⟨R, f, k.year, [⟨0, 0, k.a, k.n⟩], o1, by simp, hlo, rfl, hB.1.view g1 g2, by omega, fun h3 g3 g4 => ?_⟩
           have hB2 := hB.step g1 g2 g3 g4
           rw [hd] at hq
           simp -dsimp only [Vm.G, zA, zB, zC, zD, zE, zF, q9.1, bool_eql, beq_self_eq_true]
           exact hq h3 hB2
def sn1 : Nd := ⟨2020, 1, 0, 100, 5010, false, 9, 0, 0, 0, 0, 0⟩
def sn2 : Nd := ⟨2020, 2, 1, 100, 5010, false, 6, 0, 0, 0, 0, 0⟩
def sn3 : Nd := ⟨2020, 3, 1, 100, 5010, false, 4, 0, 0, 0, 0, 0⟩
def sF1 : Fun := upd begF (ndK sn1) (some (ndV sn1))
def sF2 : Fun := upd sF1 (ndK sn2) (some (ndV sn2))
theorem y20_tab : TabIs y20F [(yrK 2020, be 8 1)] := by
 refine ⟨by simp, fun k v => ?_⟩
 rw [y20_app, List.mem_singleton]
 by_cases hk : k = yrK 2020
 · rw [if_pos hk, hk, Prod.mk.injEq]
   exact ⟨fun h => by rw [h.2], fun h => ⟨rfl, (Option.some.inj h).symm⟩⟩
 · rw [if_neg hk, Prod.mk.injEq]
   exact ⟨fun h => absurd h.1 hk, fun h => by cases h⟩
def tB0 : List KV := tput (objK 5010) [] (tput (fundK 100) [97] [(yrK 2020, be 8 1)])
theorem beg_tab : TabIs begF tB0 := (y20_tab.put _ _).put _ _
theorem u0 : underF begF 2020 0 = 0 := by rw [underF_eq (beg_tab.scan _)]; decide +kernel
theorem u1 : underF sF1 2020 1 = 0 := by
 show underF (upd begF (ndK sn1) (some (ndV sn1))) 2020 1 = 0
 rw [underF_eq ((beg_tab.put (ndK sn1) (ndV sn1)).scan _)]; decide +kernel
theorem u2 : underF sF2 2020 1 = 6 := by
 show underF (upd (upd begF (ndK sn1) (some (ndV sn1))) (ndK sn2) (some (ndV sn2))) 2020 1 = 6
 rw [underF_eq (((beg_tab.put (ndK sn1) (ndV sn1)).put (ndK sn2) (ndV sn2)).scan _)]; decide +kernel
theorem sh1 : shNew begF sn1 = (sF1, 0) := by
 have e : underF begF sn1.year sn1.parent = 0 := u0
 unfold shNew
 rw [e]
 unfold shiftNew
 rw [if_neg (by decide +kernel), if_neg (by decide +kernel), if_neg (by decide +kernel), if_neg (by decide +kernel), if_neg (by decide +kernel)]
 rfl
theorem sh2 : shNew sF1 sn2 = (sF2, 0) := by
 have e : underF sF1 sn2.year sn2.parent = 0 := u1
 unfold shNew
 rw [e]
 unfold shiftNew
 rw [if_neg (by decide +kernel), if_neg (by decide +kernel), if_neg (by decide +kernel), if_neg (by decide +kernel), if_neg (by decide +kernel)]
 rfl
theorem sh3 : (shNew sF2 sn3).2 = 11 := by
 have e : underF sF2 sn3.year sn3.parent = 6 := u2
 unfold shNew
 rw [e]
 decide +kernel
theorem sn_ok {n : Nd} (h : n = sn1 ∨ n = sn2 ∨ n = sn3) : n.ok := by
 rcases h with rfl | rfl | rfl <;> refine ⟨?_, ?_, ?_, ?_, ?_, ?_, ?_, ?_, ?_, ?_, ?_⟩ <;> (unfold I64; decide)
theorem does_law34awake : Does Tryz.prog 5 yesSpec := by
 refine dA (good_cons does_begun34 (good_cons does_shNew good_nil)) Tryz.func5 rfl (by decide +kernel) ?_
 rintro args h Q ⟨rfl, hq⟩
 refine ⟨by simp [Tryz.f5], ?_⟩
 simp -dsimp only [Vm.G, zA, zB, zC, zD, zE, zF, q5.1]
 refine call_one (S := begun34Spec) rfl _ (.cons (.nil 12) .nil) ⟨[], by simp, by simp, rfl, fun V R h1 hB => ?_⟩
 have hV : isView h1 V begF := hB.1.1
 clear hB
 simp -dsimp only [Vm.G, zA, zB, zC, zD, zE, zF, q5.1]
 refine nil_pointer Tryz.underlying24 ?_
 simp -dsimp only [Vm.G, zA, zB, zC, zD, zE, zF, q5.1]
 refine call_one (S := shNewSpec) rfl _ GaL.rfl ⟨V, begF, sn1, sn_ok (.inl rfl), rfl, hV, by decide +kernel, fun h2 hV2 _ => ?_⟩
 rw [sh1] at hV2 ⊢
 simp -dsimp only [Vm.G, zA, zB, zC, zD, zE, zF, q5.1, bne_self_eq_false]
 refine call_one (S := shNewSpec) rfl _ GaL.rfl ⟨V, sF1, sn2, sn_ok (.inr (.inl rfl)), rfl, hV2, by decide +kernel, fun h3 hV3 _ => ?_⟩
 rw [sh2] at hV3 ⊢
 simp -dsimp only [Vm.G, zA, zB, zC, zD, zE, zF, q5.1, bne_self_eq_false]
 refine call_one (S := shNewSpec) rfl _ GaL.rfl ⟨V, sF2, sn3, sn_ok (.inr (.inr rfl)), rfl, hV3, by decide +kernel, fun h4 hV4 _ => ?_⟩
 rw [sh3]
 simp -dsimp only [Vm.G, zA, zB, zC, zD, zE, zF, q5.1, beq_self_eq_true]
 exact hq _
theorem BothW.com {h h1 : Heap} {V : VId} {R : RId} {f g : Fun} (hB : BothW h V R f g) (g3 : Same h h1 [V.ic, V.im]) : isRef h1 R f := hB.1.2.1.same g3 fun i hi hm => by
 simp only [List.mem_cons, List.not_mem_nil, or_false] at hm
 rcases hm with rfl | rfl
 · exact hB.1.2.2 V.ic (by simp) hi
 · exact hB.1.2.2 V.im (by simp) hi
theorem BothW.abo {h h1 : Heap} {V : VId} {R : RId} {f g : Fun} (hB : BothW h V R f g) (g3 : Same h h1 [V.ic]) : isRef h1 R f ∧ wasR h1 R g := by
 have hd : ∀ i ∈ [R.iv, R.iw, R.inn, R.it], i ∉ [V.ic] := fun i hi hm => by
   simp only [List.mem_cons, List.not_mem_nil, or_false] at hm
   subst hm
   exact hB.1.2.2 V.ic (by simp) hi
 exact ⟨hB.1.2.1.same g3 hd, hB.2.2.same g3 (hd _ (by simp))⟩
theorem shNew_n (f : Fun) (n : Nd) : (shNew f n).1.n ≤ f.n + 1 := by
 unfold shNew shiftNew
 split
 · exact zKa _
 · split
   · exact zKa _
   · split
     · exact zKa _
     · split
       · exact zKa _
       · split
         · exact zKa _
         · exact Nat.le_refl _
theorem amend_n (f : Fun) (y i m g k : Int) : (amendF f y i m g k).1.n ≤ f.n + 1 := by
 unfold amendF
 split
 · exact zKa _
 · split
   · exact zKa _
   · cases nodeAt f y i with
     | none => exact zKa _
     | some n =>
       simp only
       cases nodeAt f y n.parent with
       | none => exact limit_n _ _ _ _
       | some up =>
         simp only
         split
         · exact zKa _
         · exact limit_n _ _ _ _
theorem shAmend_n (f : Fun) (y i m : Int) : (shAmend f y i m).1.n ≤ f.n + 1 := amend_n _ _ _ _ _ _
theorem move_n (f : Fun) (y a b p ka kz : Int) : (moveF f y a b p ka kz).1.n ≤ f.n + 2 := by
 unfold moveF
 split
 · exact zJa _ _
 · split
   · exact zJa _ _
   · cases nodeAt f y a with
     | none => exact zJa _ _
     | some x =>
       cases nodeAt f y b with
       | none => exact zJa _ _
       | some z =>
         simp only
         have h1 := limit_n f x (w64 (x.limit - p)) ka
         have h2 := limit_n (limitF f x (w64 (x.limit - p)) ka).1 z (w64 (z.limit + p)) kz
         split
         · exact zJa _ _
         · split
           · show (limitF _ _ _ _).1.n ≤ _; omega
           · show (limitF _ _ _ _).1.n ≤ _; omega
theorem shMove_n (f : Fun) (y a b p : Int) : (shMove f y a b p).1.n ≤ f.n + 2 := move_n _ _ _ _ _ _ _
theorem cancel_n (f : Fun) (d i p : Int) : (cancelF f d i p).1.n ≤ f.n + 9 := by
 unfold cancelF
 split
 · exact zJa _ _
 · split
   · exact zJa _ _
   · rename_i dd l _
     split
     · exact zJa _ _
     · split
       · exact zJa _ _
       · split
         · exact zJa _ _
         · have h1 := chargeOf_n f dd.year (l.getD i.toNat .zero).node (lessC dd.kind p)
           split
           · show (chargeOf _ _ _ _).1.n ≤ _; omega
           · have h2 := docsSet_n (chargeOf f dd.year (l.getD i.toNat .zero).node (lessC dd.kind p)).1 d i { l.getD i.toNat .zero with can := w64 ((l.getD i.toNat .zero).can + p) }
             omega
theorem doF_n (f : Fun) (k : Ds) : (doF f k).1.n ≤ f.n + 60 := by
 have h1 := shNew_n f k.node
 have h2 := shAmend_n f k.year k.a k.n
 have h3 := shMove_n f k.year k.a k.b k.n
 have h4 := cancel_n f k.a k.b k.n
 have h5 := preNew_n f k.year [⟨0, 0, k.a, k.n⟩]
 rw [doF.eq_1]
 split
 · omega
 · split
   · show (shAmend _ _ _ _).1.n ≤ _; omega
   · split
     · show (shMove _ _ _ _ _).1.n ≤ _; omega
     · split
       · omega
       · show (preNew _ _ _).1.n ≤ _; omega
def shlSpec : Vm.Spec := fun args h Q => ∃ (ns : List Nd) (l : List Ds), ns.length ≤ 9223372036854775807 ∧ l.length ≤ 9223372036854775807 ∧ (∀ n ∈ ns, n.ok) ∧ (∀ k ∈ l, k.ok) ∧ args = [.sl 12 (ns.map ndAv), .sl 17 (l.map dsAv)] ∧ ∀ h', Q (.v (.bool true)) h'
theorem does_shl : Does Tryz.prog 4 shlSpec := by
 refine dA (good_cons does_law34awake (good_cons does_begun34 (good_cons does_commit (good_cons does_rCom (good_cons does_do34 (good_cons does_abort (good_cons does_rAb (good_cons does_sames good_nil)))))))) Tryz.func4 rfl (by decide +kernel) ?_
 rintro args h Q ⟨ns, l, hns, hl, hno, hlo, rfl, hq⟩
 refine ⟨by simp [Tryz.f4], ?_⟩
 simp -dsimp only [Vm.G, zA, zB, zC, zD, zE, zF, q4.1]
 have h0 := zIa (decide ((ns.length : Int) > 20))
 rcases h0 with c1 | c1
 · simp -dsimp only [Vm.G, zA, zB, zC, zD, zE, zF, q4.1, c1]
   refine call_one (S := yesSpec) rfl _ GaL.rfl ⟨rfl, fun hz => ?_⟩
   simp -dsimp only [Vm.G, zA, zB, zC, zD, zE, zF, q4.1]
   exact hq _
 · have d1 := of_decide_eq_false c1
   have h0 := zIa (decide ((l.length : Int) > 40))
   rcases h0 with c2 | c2
   · simp -dsimp only [Vm.G, zA, zB, zC, zD, zE, zF, q4.1, c1, c2]
     refine call_one (S := yesSpec) rfl _ GaL.rfl ⟨rfl, fun hz => ?_⟩
     simp -dsimp only [Vm.G, zA, zB, zC, zD, zE, zF, q4.1]
     exact hq _
   · have d2 := of_decide_eq_false c2
     simp -dsimp only [Vm.G, zA, zB, zC, zD, zE, zF, q4.1, c1, c2]
     refine call_one (S := begun34Spec) rfl _ GaL.rfl ⟨ns, by omega, hno, rfl, fun V R0 h1 hB => ?_⟩
     have hbn := beg34_n ns
     generalize beg34 ns = f0 at hB hbn
     have hr0 : ∃ r0, r0 = R0.iv := ⟨_, rfl⟩
     rcases hr0 with ⟨r0, hr0⟩
     rw [← hr0]
     simp -dsimp only [Vm.G, zA, zB, zC, zD, zE, zF, q4.1]
     refine awp_loop (fun m s h' => ∃ (i : Nat) (R : RId) (f g : Fun), i + m = l.length ∧ R.iv = r0 ∧ BothW h' V R f g ∧ f.n ≤ 40 + 60 * i ∧ g.n ≤ 40 + 60 * i ∧ s = mk [(5, .ptr V.iv 0), (6, .ptr r0 0), (25, .sl 17 (l.map dsAv)), (26, .v (.int .i64 l.length)), (27, .v (.int .i64 (i : Nat)))])
       l.length _ (le_mk _ ?_) ⟨0, R0, f0, noF, by omega, hr0.symm, hB, by omega, Nat.zero_le _, rfl⟩ ?_
     · simp only [Vm.D]
       try simp -dsimp only [Vm.G, zA, zB, zC, zD, zE, zF, q4.1]
       repeat' first | exact .refl _ | exact .nil _ _ _ (by decide) | refine ⟨?_, ?_⟩
     · clear hB hbn hr0
       rintro m s h' ⟨i, R, f, g, hi, hr, hB, hfn, hgn, rfl⟩
       simp -dsimp only [Vm.G, zA, zB, zC, zD, zE, zF, q4.1]
       refine cond_intro (fun hcc => ?_) (fun hcc => ?_)
       · have hlt : i < l.length := by have := of_decide_eq_true hcc; omega
         have hw := hwN i (by omega)
         have hk := hlo l[i] (List.getElem_mem hlt)
         have hxe : ∃ k, l[i] = k := ⟨_, rfl⟩
         rcases hxe with ⟨k, hkx⟩
         rw [hkx] at hk
         clear hcc
         simp -dsimp only [Vm.G, zA, zB, zC, zD, zE, zF, q4.1]
         refine idx_map dsAv l i hlt ?_
         simp only [hkx, dsAv, dsCells, ndCells, List.cons_append, List.nil_append]
         simp -dsimp only [Vm.G, zA, zB, zC, zD, zE, zF, q4.1, AV.cells]
         refine call_one (S := commitSpec) rfl _ GaL.rfl ⟨V, f, rfl, hB.1.1, by omega, fun h1 g1 g2 g3 => ?_⟩
         have hR1 := hB.com g3
         simp -dsimp only [Vm.G, zA, zB, zC, zD, zE, zF, q4.1]
         refine call_one (S := rComSpec) rfl _ GaL.rfl ⟨R, f, by rw [hr], hR1, fun h2 k1 k2 k3 => ?_⟩
         have hB2 := both_turn hB.1 g1 g3 k1 k3 g2 k2 (.inl rfl)
         have hr2 : (rComId R h1).iv = r0 := hr
         generalize rComId R h1 = R2 at hB2 hr2
         clear hR1 k1 k2 k3 g1 g2 g3
         have hdn := doF_n f k
         simp -dsimp only [Vm.G, zA, zB, zC, zD, zE, zF, q4.1]
         refine call_one (S := do34Spec) rfl _ GaL.rfl ⟨V, R2, f, f, k, hk, by rw [hr2]; rfl, hB2, by omega, fun h3 hB3 => ?_⟩
         generalize doF f k = q at hB3 hdn ⊢
         rcases q with ⟨f3, qe⟩
         simp only at hB3 hdn ⊢
         have h0 := zIa (qe != 0)
         rcases h0 with c | c
         · simp -dsimp only [Vm.G, zA, zB, zC, zD, zE, zF, q4.1, c]
           refine call_one (S := abortSpec) rfl _ GaL.rfl ⟨V, f3, f, rfl, hB3.1.1, hB3.2.1, fun h4 g1 g2 g3 => ?_⟩
           have hRW := hB3.abo g3
           rcases hRW with ⟨hR4, hW4⟩
           have g3' : Same h3 h4 [V.ic, V.im] := ⟨g3.1, fun i hi hm => g3.2 i hi (by simp at hm ⊢; exact hm.1)⟩
           simp -dsimp only [Vm.G, zA, zB, zC, zD, zE, zF, q4.1]
           refine call_one (S := rAbSpec) rfl _ GaL.rfl ⟨R2, f3, f, by rw [hr2], hR4, hW4, fun h5 k1 k2 k3 => ?_⟩
           have hB5 := both_turn hB3.1 g1 g3' k1 k3 g2 k2 (.inr rfl)
           have hr3 : (rAbId R2 h4).iv = r0 := hr2
           generalize rAbId R2 h4 = R3 at hB5 hr3
           simp -dsimp only [Vm.G, zA, zB, zC, zD, zE, zF, q4.1]
           refine call_one (S := samesSpec) rfl _ GaL.rfl ⟨V, R3, f, by rw [hr3], hB5.1, by omega, fun h6 hB6 hs6 => ?_⟩
           have hB7 := Both.quietB hB5 hB6 hs6
           simp -dsimp only [Vm.G, zA, zB, zC, zD, zE, zF, q4.1]
           refine kept_intro ⟨l.length - (i + 1), by omega, _, le_mk [(5, .ptr V.iv 0), (6, .ptr r0 0), (25, .sl 17 (l.map dsAv)), (26, .v (.int .i64 l.length)), (27, .v (.int .i64 (i + 1 : Nat)))] ?_, i + 1, R3, f, f, by omega, hr3, hB7, by omega, by omega, rfl⟩
           simp only [Vm.D, hw]
           try simp -dsimp only [Vm.G, zA, zB, zC, zD, zE, zF, q4.1, hw]
           repeat' first | exact .refl _ | exact .nil _ _ _ (by decide) | refine ⟨?_, ?_⟩
         · simp -dsimp only [Vm.G, zA, zB, zC, zD, zE, zF, q4.1, c]
           refine call_one (S := samesSpec) rfl _ GaL.rfl ⟨V, R2, f3, by rw [hr2], hB3.1, by omega, fun h6 hB6 hs6 => ?_⟩
           have hB7 := Both.quietB hB3 hB6 hs6
           simp -dsimp only [Vm.G, zA, zB, zC, zD, zE, zF, q4.1]
           refine kept_intro ⟨l.length - (i + 1), by omega, _, le_mk [(5, .ptr V.iv 0), (6, .ptr r0 0), (25, .sl 17 (l.map dsAv)), (26, .v (.int .i64 l.length)), (27, .v (.int .i64 (i + 1 : Nat)))] ?_, i + 1, R2, f3, f, by omega, hr2, hB7, by omega, by omega, rfl⟩
           simp only [Vm.D, hw]
           try simp -dsimp only [Vm.G, zA, zB, zC, zD, zE, zF, q4.1, hw]
           repeat' first | exact .refl _ | exact .nil _ _ _ (by decide) | refine ⟨?_, ?_⟩
       · have hge : ¬ i < l.length := by have := of_decide_eq_false hcc; omega
         clear hcc
         simp -dsimp only [Vm.G, zA, zB, zC, zD, zE, zF, q4.1]
         refine call_one (S := yesSpec) rfl _ GaL.rfl ⟨rfl, fun hz => ?_⟩
         simp -dsimp only [Vm.G, zA, zB, zC, zD, zE, zF, q4.1]
         exact hq _
theorem isA_ds {y : AV} (h : IsA (.agg [.int .i64, .int .i64, .int .i64, .int .i64, .int .i64, .agg [.int .i64, .int .i64, .int .i64, .int .i64, .int .i64, .bool, .int .i64, .int .i64, .int .i64, .int .i64, .int .i64, .int .i64]]) y) : ∃ k : Ds, k.ok ∧ y = dsAv k := by
 simp only [IsA, IsAll] at h
 obtain ⟨ys, ⟨y1, r1, rfl, h1, y2, r2, rfl, h2, y3, r3, rfl, h3, y4, r4, rfl, h4, y5, r5, rfl, h5, y6, r6, rfl, h6, rfl⟩, rfl⟩ := h
 obtain ⟨a1, k1, rfl⟩ := isA_int (by simpa only [IsA] using h1)
 obtain ⟨a2, k2, rfl⟩ := isA_int (by simpa only [IsA] using h2)
 obtain ⟨a3, k3, rfl⟩ := isA_int (by simpa only [IsA] using h3)
 obtain ⟨a4, k4, rfl⟩ := isA_int (by simpa only [IsA] using h4)
 obtain ⟨a5, k5, rfl⟩ := isA_int (by simpa only [IsA] using h5)
 obtain ⟨n, hn, rfl⟩ := isA_nd (by simpa only [IsA, IsAll] using h6)
 exact ⟨⟨a1, a2, a3, a4, a5, n⟩, ⟨k2, k3, k4, k5, hn⟩, rfl⟩
theorem shl_args {y0 y1 : AV} (i0 : IsA (.sl (.agg [.int .i64, .int .i64, .int .i64, .int .i64, .int .i64, .bool, .int .i64, .int .i64, .int .i64, .int .i64, .int .i64, .int .i64])) y0) (i1 : IsA (.sl (.agg [.int .i64, .int .i64, .int .i64, .int .i64, .int .i64, .agg [.int .i64, .int .i64, .int .i64, .int .i64, .int .i64, .bool, .int .i64, .int .i64, .int .i64, .int .i64, .int .i64, .int .i64]])) y1) {Q : AV → Heap → Prop} (hq : ∀ h', Q (.v (.bool true)) h') : shlSpec [y0, y1] [] Q := by
 obtain ⟨ns, h1, rfl, o1⟩ := isA_list _ ndAv (fun y hy => isA_nd hy) i0
 obtain ⟨l, h2, rfl, o2⟩ := isA_list _ dsAv (fun y hy => isA_ds hy) i1
 exact ⟨ns, l, h1, h2, o1, o2, rfl, hq⟩
end Go.Proofs.Lx
