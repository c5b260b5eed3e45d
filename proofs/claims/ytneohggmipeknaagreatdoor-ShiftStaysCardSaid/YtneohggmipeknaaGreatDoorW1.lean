/- What the functions of the program do: their contracts. -/
import Derived.Test.YtneohggmipeknaaGreatDoorV2
import Derived.Test.YtneohggmipeknaaGreatDoorTFs
import Derived.Test.YtneohggmipeknaaGreatDoorW0
import Derived.Test.YtneohggmipeknaaGreatDoorShelfLn
open List renaming lookup → zA, length_map → zIa, take_of_length_le → zJa, length_cons → zKa, append_nil → zLa, length_nil → zMa, mem_cons → zOa, map_append → zQa, mem_cons_self → zRa, take_succ_eq_append_getElem → zSa, length_take → zUa, map_cons → zVa, getElem?_append_right → zWa, mem_cons_of_mem → zXa, getElem?_set_ne → zYa, map_nil → zIb, getElem_mem → zJb, getElem?_eq_getElem → zKb, pairwise_cons → zLb, getElem?_eq_none → zMb, mem_map → zOb, not_mem_nil → zPb, mem_singleton → zQb, nil_append → zRb, drop_zero → zSb, length_append → zTb
open Nat renaming reduceAdd → zB, reduceBEq → zC, reduceLeDiff → zF
open Int renaming reduceBNe → zD, reduceBEq → zE, toNat_natCast → zNa
open Bool renaming true_beq → zG, false_beq → zH, eq_false_or_eq_true → zTa, false_eq_true → zUb
open Option renaming toList → zPa, bind_some → zNb
set_option maxRecDepth 20000
set_option maxHeartbeats 16000000
set_option linter.unusedSimpArgs false
set_option linter.unusedVariables false
namespace Go.Proofs.Lx
open Go.Vm
attribute [local irreducible] awpArr awpBin awpMake awpAppend awpCvX awpStrOf awpBinX awpSlice awpBS awpStore awpAlloc awpCopy awpIndex awpDraw awpIdxX awpFa awpField awpLookup awpUpdate awpDelete awpClear awpRange awpNext awpEntry awpBuild awpClearS awpIdxL
theorem filterMap_step {α β : Type} (g : α → Option β) (l : List α) (i : Nat) (hi : i < l.length) : (l.take (i + 1)).filterMap g = (l.take i).filterMap g ++ (g l[i]).toList := by
 rw [zSa hi, List.filterMap_append]
 cases h : g l[i] <;> simp [h]
theorem filterMap_le {α β : Type} (g : α → Option β) (l : List α) (i : Nat) : ((l.take i).filterMap g).length ≤ i := Nat.le_trans (List.length_filterMap_le ..) (by rw [zUa]; omega)
theorem key1_length (t : UInt8) (a : Int) : (keyOf t [a]).length = 5 := by simp [keyOf, packs, be_length]
def inYear (year : Int) (p : KV) : Option Nd := match nodeOf p.1 p.2 with
 | some n => if n.year = year then some n else none
 | none => none
abbrev allN (year : Int) (l : List KV) : List Nd := l.filterMap (inYear year)
def ballSpec : Vm.Spec := fun args h Q => ∃ (V : VId) (f : Fun) (year : Int), args = [.agg [.ptr V.iv 0, .v (.int .i64 year)]] ∧ isView h V f ∧ f.n ≤ 536870912 ∧
 ∀ l h', ScanIs f (keyOf 78 [year]) l → l.length ≤ 2 * f.n → isView h' V f → Same h h' [] → Q (.own true 29 12 ((allN year l).map ndAv)) h'
theorem does_ball : Does Tryz.prog 44 ballSpec := by
 refine dA (good_cons does_key (good_cons does_scan (good_cons does_nodeOf good_nil))) Tryz.func44 rfl (by decide +kernel) ?_
 rintro args h Q ⟨V, f, year, rfl, hV, hn, hq⟩
 refine ⟨by simp [Tryz.f44], ?_⟩
 simp -dsimp only [Vm.G, zA, zB, zC, zD, zE, zF, q44.1]
 refine draw_cont [1] (.take 0 (.take 1 (.take 2 (.take 3 (.take 8 (.alt 4 (.alt 5 (.alt 6 (.take 7 (.done)) .stop) .stop) .stop)))))) (fun s h' => ∃ l, (ScanIs f (keyOf 78 [year]) l ∧ l.length ≤ 2 * f.n ∧ isView h' V f ∧ Same h h' []) ∧ s 1 = .eptr [.ptr V.iv 0, .v (.int .i64 year)] ∧ s 3 = .v (.slice none 0 0) ∧ s 14 = .own true 132 2 (l.map kvAv) ∧ s 15 = .v (.int .i64 l.length) ∧ s 16 = .v (.int .i64 0)) (by kernel_rfl) (by kernel_rfl) (by kernel_rfl) (by decide) ?_ ?_
 · simp -dsimp only [Vm.G, zA, zB, zC, zD, zE, zF, q44.1]
   refine bs_intro zr3 (by decide) (by decide) rfl rfl (by simp [solid, AV.cells]) ?_
   simp -dsimp only [Vm.G, zA, zB, zC, zD, zE, zF, q44.1]
   refine call_one (S := keySpec) rfl _ GaL.rfl ⟨78, [year], by simp, rfl, ?_⟩
   simp -dsimp only [Vm.G, zA, zB, zC, zD, zE, zF, q44.1]
   refine call_one (S := scanSpec) rfl _ GaL.rfl ⟨V, f, keyOf 78 [year], rfl, by rw [key1_length]; decide, hV, hn, fun l h1 hsc hln hV1 hs1 => ?_⟩
   simp -dsimp only [Vm.G, zA, zB, zC, zD, zE, zF, q44.1]
   refine ⟨l, ⟨hsc, hln, hV1, hs1⟩, ?_⟩
   repeat' first | rfl | exact True.intro | refine And.intro ?_ ?_
 · rintro s h1 ⟨l, ⟨hsc, hln, hV1, hs1⟩, e1, e3, e14, e15, e16⟩
   simp -dsimp only [Vm.G, zA, zB, zC, zD, zE, zF, q44.1, e1, e3, e14, e15, e16]
   refine awp_loop (fun m s h' => ∃ i : Nat, i + m = l.length ∧ h' = h1 ∧ s = mk [(1, .eptr [.ptr V.iv 0, .v (.int .i64 year)]), (3, .own true 29 12 ((allN year (l.take i)).map ndAv)), (14, .own true 132 2 (l.map kvAv)), (15, .v (.int .i64 l.length)), (16, .v (.int .i64 i))])
     l.length _ (le_mk _ ?_) ⟨0, by omega, rfl, rfl⟩ ?_
   · simp only [Vm.D, e1, e3, e14, e15, e16]
     try simp -dsimp only [Vm.G, zA, zB, zC, zD, zE, zF, q44.1, e1, e3, e14, e15, e16]
     repeat' first | exact .refl _ | exact .nil _ _ _ (by decide) | refine ⟨?_, ?_⟩
   · rintro m s h' ⟨i, hi, rfl, rfl⟩
     simp -dsimp only [Vm.G, zA, zB, zC, zD, zE, zF, q44.1]
     refine cond_intro (fun hcc => ?_) (fun hcc => ?_)
     · have hlt : i < l.length := by have := of_decide_eq_true hcc; omega
       have hw := hwN i (by omega)
       have hget : (l.map kvAv)[i]? = some (kvAv l[i]) := by simp [hlt]
       have est := filterMap_step (inYear year) l i hlt
       have hal : (allN year (l.take i)).length ≤ i := filterMap_le (inYear year) l i
       have hin := ((hsc.2 l[i].1 l[i].2).1 (zJb hlt)).1
       have hkl : l[i].1.length ≤ 32 := hV.klen hin
       have hvl : l[i].2.length ≤ 120 := hV.len _ _ hin
       clear hin
       generalize l[i] = p at hget est hkl hvl
       obtain ⟨k, v⟩ := p
       simp only at hkl hvl
       have e0 : inYear year (k, v) = match nodeOf k v with | some n => if n.year = year then some n else none | none => none := rfl
       simp -dsimp only [Vm.G, zA, zB, zC, zD, zE, zF, q44.1]
       refine idxO_intro (by omega) (by simp; omega) ?_
       simp -dsimp only [Vm.G, zA, zB, zC, zD, zE, zF, q44.1, zNa]
       refine eltA_intro hget ?_
       simp only [kvAv]
       simp -dsimp only [Vm.G, zA, zB, zC, zD, zE, zF, q44.1, AV.cells, zSb]
       refine call_one (S := nodeOfSpec) rfl _ GaL.rfl ⟨k, v, by omega, by omega, rfl, fun n hno => ?_, fun hno => ?_⟩
       · rw [hno] at e0
         simp only at e0
         simp only [ndCells]
         simp -dsimp only [Vm.G, zA, zB, zC, zD, zE, zF, q44.1]
         cases c1 : (n.year == year)
         · have d1 : ¬ n.year = year := by simpa using c1
           rw [if_neg d1] at e0
           rw [e0] at est
           simp -dsimp only [Vm.G, zA, zB, zC, zD, zE, zF, q44.1]
           refine kept_intro ⟨l.length - (i + 1), by omega, _, le_mk [(1, .eptr [.ptr V.iv 0, .v (.int .i64 year)]), (3, .own true 29 12 ((allN year (l.take (i + 1))).map ndAv)), (14, .own true 132 2 (l.map kvAv)), (15, .v (.int .i64 l.length)), (16, .v (.int .i64 (i + 1 : Nat)))] ?_, i + 1, by omega, rfl, rfl⟩
           simp only [Vm.D, hw, est, zPa, zLa]
           try simp -dsimp only [Vm.G, zA, zB, zC, zD, zE, zF, q44.1, hw, est, zPa, zLa]
           repeat' first | exact .refl _ | exact .nil _ _ _ (by decide) | refine ⟨?_, ?_⟩
         · have d1 : n.year = year := by simpa using c1
           rw [if_pos d1] at e0
           rw [e0] at est
           simp -dsimp only [Vm.G, zA, zB, zC, zD, zE, zF, q44.1]
           refine bs_intro zr29 (by decide) (by decide) rfl rfl (by simp [solid, AV.cells]) ?_
           simp -dsimp only [Vm.G, zA, zB, zC, zD, zE, zF, q44.1]
           refine app_sl Tryz.underlying36 (by simp [AV.cells]) (by simp only [zIa, zKa, zMa]; omega) ?_
           simp -dsimp only [Vm.G, zA, zB, zC, zD, zE, zF, q44.1]
           refine kept_intro ⟨l.length - (i + 1), by omega, _, le_mk [(1, .eptr [.ptr V.iv 0, .v (.int .i64 year)]), (3, .own true 29 12 ((allN year (l.take (i + 1))).map ndAv)), (14, .own true 132 2 (l.map kvAv)), (15, .v (.int .i64 l.length)), (16, .v (.int .i64 (i + 1 : Nat)))] ?_, i + 1, by omega, rfl, rfl⟩
           simp only [Vm.D, hw, est, zPa, zQa, zVa, zIb, ndAv, ndCells]
           try simp -dsimp only [Vm.G, zA, zB, zC, zD, zE, zF, q44.1, hw, est, zPa, zQa, zVa, zIb, ndAv, ndCells]
           repeat' first | exact .refl _ | exact .nil _ _ _ (by decide) | refine ⟨?_, ?_⟩
       · rw [hno] at e0
         simp only at e0
         rw [e0] at est
         simp only [ndCells]
         simp -dsimp only [Vm.G, zA, zB, zC, zD, zE, zF, q44.1]
         refine kept_intro ⟨l.length - (i + 1), by omega, _, le_mk [(1, .eptr [.ptr V.iv 0, .v (.int .i64 year)]), (3, .own true 29 12 ((allN year (l.take (i + 1))).map ndAv)), (14, .own true 132 2 (l.map kvAv)), (15, .v (.int .i64 l.length)), (16, .v (.int .i64 (i + 1 : Nat)))] ?_, i + 1, by omega, rfl, rfl⟩
         simp only [Vm.D, hw, est, zPa, zLa]
         try simp -dsimp only [Vm.G, zA, zB, zC, zD, zE, zF, q44.1, hw, est, zPa, zLa]
         repeat' first | exact .refl _ | exact .nil _ _ _ (by decide) | refine ⟨?_, ?_⟩
     · have hge : ¬ i < l.length := by have := of_decide_eq_false hcc; omega
       simp -dsimp only [Vm.G, zA, zB, zC, zD, zE, zF, q44.1]
       rw [zJa (by omega)]
       exact hq l h' hsc hln hV1 hs1
def tallSpec : Vm.Spec := fun args h Q => ∃ (V : VId) (f : Fun) (year : Int), args = [.ptr V.iv 0, .v (.int .i64 year)] ∧ isView h V f ∧ f.n ≤ 536870912 ∧
 ∀ l h', ScanIs f (keyOf 78 [year]) l → l.length ≤ 2 * f.n → isView h' V f → Same h h' [] → Q (.own true 29 12 ((allN year l).map ndAv)) h'
theorem does_tall : Does Tryz.prog 12 tallSpec := by
 refine dA (good_cons does_ball good_nil) Tryz.func12 rfl (by decide +kernel) ?_
 rintro args h Q ⟨V, f, year, rfl, hV, hn, hq⟩
 refine ⟨by simp [Tryz.f12], ?_⟩
 simp -dsimp only [Vm.G, zA, zB, zC, zD, zE, zF, q12.1]
 refine call_one (S := ballSpec) rfl _ GaL.rfl ⟨V, f, year, rfl, hV, hn, fun l h1 hsc hln hV1 hs1 => ?_⟩
 simp -dsimp only [Vm.G, zA, zB, zC, zD, zE, zF, q12.1]
 exact hq l h1 hsc hln hV1 hs1
def tgetSpec : Vm.Spec := fun args h Q => ∃ (V : VId) (f : Fun) (year id : Int), args = [.ptr V.iv 0, .v (.int .i64 year), .v (.int .i64 id)] ∧ isView h V f ∧
 (∀ n, nodeAt f year id = some n → Q (.tup [.agg (ndCells n), .v (.bool true)]) h) ∧ (nodeAt f year id = none → Q (.tup [.agg (ndCells .zero), .v (.bool false)]) h)
theorem does_tget : Does Tryz.prog 56 tgetSpec := by
 refine dA (good_cons does_tnode good_nil) Tryz.func56 rfl (by decide +kernel) ?_
 rintro args h Q ⟨V, f, year, id, rfl, hV, hq1, hq2⟩
 refine ⟨by simp [Tryz.f56], ?_⟩
 simp -dsimp only [Vm.G, zA, zB, zC, zD, zE, zF, q56.1]
 refine call_one (S := tnodeSpec) rfl _ GaL.rfl ⟨V, f, year, id, rfl, hV, fun n hno => ?_, fun hno => ?_⟩
 · simp only [ndCells]
   simp -dsimp only [Vm.G, zA, zB, zC, zD, zE, zF, q56.1]
   exact hq1 n hno
 · simp only [ndCells]
   simp -dsimp only [Vm.G, zA, zB, zC, zD, zE, zF, q56.1]
   exact hq2 hno
def kidAskSpec : Vm.Spec := fun args h Q => ∃ (n : Nd) (o : Nat) (id : Int), args = [.agg (ndCells n), .ptr o 0] ∧ h[o]? = some (.cells [.v (.int .i64 id)]) ∧ Q (.v (.bool (n.parent != id))) h
theorem does_kidAsk : Does Tryz.prog 46 kidAskSpec := by
 refine dA good_nil Tryz.func46 rfl (by decide +kernel) ?_
 rintro args h Q ⟨n, o, id, rfl, ho, hq⟩
 refine ⟨by simp [Tryz.f46], ?_⟩
 simp only [ndCells]
 simp -dsimp only [Vm.G, zA, zB, zC, zD, zE, zF, q46.1, ho]
 exact hq
def kidT : Tab := tab [(46, kidAskSpec)]
def delNdT : Tab := tab [(120, orS (ixPSpecNd kidT) ixPNilSpecNd), (46, kidAskSpec)]
theorem good_kidT : Good kidT := good_cons does_kidAsk good_nil
theorem good_delNdT : Good delNdT := good_cons (does_or (does_ixPNd good_kidT) does_ixPNilNd) (good_cons does_kidAsk good_nil)
theorem kid_sub : ∀ g S, kidT g = some S → delNdT g = some S := fun g S h => by
 unfold kidT delNdT tab at *
 simp only [List.lookup] at h ⊢
 split at h
 · rename_i e
   have hg : g = 46 := by simpa using e
   subst hg; cases h; rfl
 · cases h
theorem does_delNd : Does Tryz.prog 45 (orS (delPSpecNd kidT) delPNilSpecNd) :=
 does_or (does_delPNd good_delNdT kid_sub rfl) (does_delPNilNd (T2 := kidT) good_delNdT rfl)
def kidP (id : Int) (x : AV) : Bool := match x with
 | .agg (_ :: _ :: .v (.int _ p) :: _) => p != id
 | _ => false
theorem stay_nd (id : Int) (l : List Nd) : stay (kidP id) (l.map ndAv) = (l.filter fun n => n.parent == id).map ndAv := by
 rw [stay, List.filter_map]
 congr 1
 apply List.filter_congr
 intro n _
 simp [Function.comp, kidP, ndAv, ndCells, bne]
abbrev kidsN (year id : Int) (l : List KV) : List Nd := (allN year l).filter fun n => n.parent == id
def tkidsSpec : Vm.Spec := fun args h Q => ∃ (V : VId) (f : Fun) (year id : Int), args = [.ptr V.iv 0, .v (.int .i64 year), .v (.int .i64 id)] ∧ isView h V f ∧ f.n ≤ 536870912 ∧
 ∀ l h', ScanIs f (keyOf 78 [year]) l → l.length ≤ 2 * f.n → isView h' V f → Same h h' [] → Q (.own true 29 12 ((kidsN year id l).map ndAv)) h'
theorem does_tkids : Does Tryz.prog 14 tkidsSpec := by
 refine dA (good_cons does_tall (good_cons does_delNd good_nil)) Tryz.func14 rfl (by decide +kernel) ?_
 rintro args h Q ⟨V, f, year, id, rfl, hV, hn, hq⟩
 refine ⟨by simp [Tryz.f14], ?_⟩
 simp -dsimp only [Vm.G, zA, zB, zC, zD, zE, zF, q14.1]
 refine call_one (S := tallSpec) rfl _ GaL.rfl ⟨V, f, year, rfl, hV, hn, fun l h1 hsc hln hV1 hs1 => ?_⟩
 simp -dsimp only [Vm.G, zA, zB, zC, zD, zE, zF, q14.1, awpOp_mf]
 refine call_in _ _ _ ?_
 simp -dsimp only [Vm.G, zA, zB, zC, zD, zE, zF, q14.1, callI_eq, ownSl_own, ownSl_alias]
 have hsame := Same.more h1 [AObj.cells [.v (.int .i64 id)]]
 have hV2 := hV1.more [AObj.cells [.v (.int .i64 id)]]
 have g0 := heap_last h1 (AObj.cells [.v (.int .i64 id)])
 have hal : (allN year l).length ≤ l.length := List.length_filterMap_le (inYear year) l
 generalize h1 ++ [AObj.cells [.v (.int .i64 id)]] = hh at *
 refine callI_ret (S := orS (delPSpecNd kidT) delPNilSpecNd) (xs' := stay (kidP id) ((allN year l).map ndAv)) rfl (fun x hx => (List.mem_filter.1 hx).1) (fun hx => ⟨by rw [hx]; rfl, fun Q' hq' => .inr ⟨_, _, rfl, hq'⟩⟩)
   (fun c hc Q' hq' => .inl ⟨46, [.ptr h1.length 0], kidAskSpec, kidP id, (allN year l).map ndAv, hh, c, 29, rfl, rfl, rfl, hc, fun x hx => ?_, by rw [zIa]; omega, fun cs x hx Q2 hq2 => ?_, hq'⟩) ?_
 · obtain ⟨n, -, rfl⟩ := zOb.1 hx
   exact ⟨n, rfl⟩
 · obtain ⟨n, -, rfl⟩ := zOb.1 hx
   exact ⟨n, h1.length, id, rfl, heap_get _ g0, hq2⟩
 rw [stay_nd]
 simp -dsimp only [Vm.G, zA, zB, zC, zD, zE, zF, q14.1]
 exact hq l hh hsc hln hV2 ⟨Nat.le_trans hs1.1 hsame.1, fun i hi hni => (hsame.2 i (Nat.lt_of_lt_of_le hi hs1.1) (by simp)).trans (hs1.2 i hi hni)⟩
abbrev w64s (l : List Int) : Int := l.foldl (fun a b => w64 (a + b)) 0
def givenSpec : Vm.Spec := fun args h Q => ∃ l : List Nd, l.length ≤ 9223372036854775807 ∧ args = [.sl 12 (l.map ndAv)] ∧ Q (.v (.int .i64 (w64s (l.map (·.limit))))) h
theorem does_given : Does Tryz.prog 13 givenSpec := by
 refine dA good_nil Tryz.func13 rfl (by decide +kernel) ?_
 rintro args h Q ⟨l, hl, rfl, hq⟩
 refine ⟨by simp [Tryz.f13], ?_⟩
 simp -dsimp only [Vm.G, zA, zB, zC, zD, zE, zF, q13.1]
 refine awp_loop (fun m s h' => ∃ i : Nat, i + m = l.length ∧ h' = h ∧ s = mk [(3, .v (.int .i64 (w64s ((l.take i).map (·.limit))))), (6, .sl 12 (l.map ndAv)), (7, .v (.int .i64 l.length)), (8, .v (.int .i64 i))])
   l.length _ (le_mk _ ?_) ⟨0, by omega, rfl, rfl⟩ ?_
 · simp only [Vm.D]
   try simp -dsimp only [Vm.G, zA, zB, zC, zD, zE, zF, q13.1]
   repeat' first | exact .refl _ | exact .nil _ _ _ (by decide) | refine ⟨?_, ?_⟩
 · rintro m s h' ⟨i, hi, rfl, rfl⟩
   simp -dsimp only [Vm.G, zA, zB, zC, zD, zE, zF, q13.1]
   refine cond_intro (fun hcc => ?_) (fun hcc => ?_)
   · have hlt : i < l.length := by have := of_decide_eq_true hcc; omega
     have hw := hwN i (by omega)
     have est : w64s ((l.take (i + 1)).map (·.limit)) = w64 (w64s ((l.take i).map (·.limit)) + l[i].limit) := by
       rw [zSa hlt, zQa, w64s, List.foldl_append]; rfl
     simp -dsimp only [Vm.G, zA, zB, zC, zD, zE, zF, q13.1]
     refine idx_map ndAv l i hlt ?_
     generalize l[i] = n at est
     simp only [ndAv, ndCells]
     simp -dsimp only [Vm.G, zA, zB, zC, zD, zE, zF, q13.1, AV.cells]
     refine kept_intro ⟨l.length - (i + 1), by omega, _, le_mk [(3, .v (.int .i64 (w64s ((l.take (i + 1)).map (·.limit))))), (6, .sl 12 (l.map ndAv)), (7, .v (.int .i64 l.length)), (8, .v (.int .i64 (i + 1 : Nat)))] ?_, i + 1, by omega, rfl, rfl⟩
     simp only [Vm.D, hw, est]
     try simp -dsimp only [Vm.G, zA, zB, zC, zD, zE, zF, q13.1, hw, est]
     repeat' first | exact .refl _ | exact .nil _ _ _ (by decide) | refine ⟨?_, ?_⟩
   · have hge : ¬ i < l.length := by have := of_decide_eq_false hcc; omega
     simp -dsimp only [Vm.G, zA, zB, zC, zD, zE, zF, q13.1]
     rw [zJa (by omega)]
     exact hq
end Go.Proofs.Lx
namespace Go.Proofs.Lx
open Go.Vm
attribute [local irreducible] awpMake awpAppend awpCvX awpStrOf awpBinX awpSlice awpBS awpStore awpAlloc awpCopy awpIndex awpDraw awpIdxX awpFa awpField awpLookup awpUpdate awpDelete awpClear awpRange awpNext awpEntry awpBuild
theorem does_refSized : Does Tryz.prog 247 sizedSpec := by
 refine dA good_nil Tryz.func247 rfl (by decide +kernel) ?_
 rintro args h Q ⟨n, rfl, hq⟩
 refine ⟨by simp [Tryz.f247], ?_⟩
 unfold sized at hq
 simp -dsimp only [Vm.E, zA, zB, zC, zD, zE, zG, zH]
 cases h1 : (n == 1) <;> cases h2 : (n == 2) <;> cases h4 : (n == 4) <;> cases h8 : (n == 8) <;>
   simp -dsimp only [Vm.E, zA, zB, zC, zD, zE, zG, zH, h1, h2, h4, h8, Tryz.results247] <;> simpa [h1, h2, h4, h8] using hq
def powSpec : Vm.Spec := fun args h Q => ∃ k : Nat, k ≤ 7 ∧ args = [.v (.int .i64 k)] ∧ Q (.v (.int .i64 (256 ^ k : Nat))) h
theorem pow_le {i : Nat} (h : i ≤ 7) : 256 ^ i ≤ 256 ^ 7 := Nat.pow_le_pow_right (by decide) h
theorem does_pow : Does Tryz.prog 248 powSpec := by
 refine dA good_nil Tryz.func248 rfl (by decide +kernel) ?_
 rintro args h Q ⟨k, hk, rfl, hq⟩
 refine ⟨by simp [Tryz.f248], ?_⟩
 simp -dsimp only [Vm.E, zA, zB, zC, zD, zE, zG, zH]
 refine awp_loop (fun n s h' => ∃ i : Nat, i + n = k ∧ h' = h ∧ s = mk [(0, .v (.int .i64 k)), (3, .v (.int .i64 (256 ^ i : Nat))), (4, .v (.int .i64 i))])
   k _ (le_mk _ ?_) ⟨0, by omega, rfl, rfl⟩ ?_
 · simp [init_get]
 · rintro n s h' ⟨i, hi, rfl, rfl⟩
   simp -dsimp only [Vm.E, zA, zB, zC, zD, zE, zG, zH]
   refine cond_intro (fun hc => ?_) (fun hc => ?_)
   · have hlt : i < k := by have := of_decide_eq_true hc; omega
     simp -dsimp only [Vm.E, zA, zB, zC, zD, zE, zG, zH]
     refine kept_intro ⟨k - (i + 1), by omega, _, le_mk [(0, .v (.int .i64 k)), (3, .v (.int .i64 (256 ^ (i + 1) : Nat))), (4, .v (.int .i64 (i + 1 : Nat)))] ?_, i + 1, by omega, rfl, rfl⟩
     simp only [Vm.D]
     simp -dsimp only [Vm.E, zA, zB, zC, zD, zE, zG, zH]
     have e : (((256 ^ i : Nat) : Int) * 256) = ((256 ^ (i + 1) : Nat) : Int) := by rw [Nat.pow_succ]; simp
     have hp := pow_le (show i + 1 ≤ 7 by omega)
     have hp2 : (256 : Nat) ^ 7 = 72057594037927936 := by decide
     generalize hgg : 256 ^ (i + 1) = pw at hp
     rw [e, hgg, wrap_i64 (by omega) (by omega), wrap_i64 (by omega) (by omega)]
     exact ⟨.refl _, .refl _, .refl _⟩
   · have hge : ¬ i < k := by have := of_decide_eq_false hc; omega
     simp -dsimp only [Vm.E, zA, zB, zC, zD, zE, zG, zH, Tryz.results248]
     have : i = k := by omega
     subst this
     exact hq
theorem does_refRight : Does Tryz.prog 204 rightSpec := by
 refine dA (good_cons does_refSized (good_cons does_pow good_nil)) Tryz.func204 rfl (by decide +kernel) ?_
 rintro args h Q ⟨n, size, hn0, hn1, rfl, hq⟩
 refine ⟨by simp [Tryz.f204], ?_⟩
 unfold fits at hq
 simp -dsimp only [Vm.E, zA, zB, zC, zD, zE, zG, zH]
 cases h8 : (size == 8)
 · simp -dsimp only [Vm.E, zA, zB, zC, zD, zE, zG, zH, h8]
   refine call_one (S := sizedSpec) rfl _ GaL.rfl ⟨_, rfl, ?_⟩
   simp -dsimp only [Vm.E, zA, zB, zC, zD, zE, zG, zH]
   cases hs : sized size
   · simp -dsimp only [Vm.E, zA, zB, zC, zD, zE, zG, zH, Tryz.results204]
     simpa [h8, hs] using hq
   · simp -dsimp only [Vm.E, zA, zB, zC, zD, zE, zG, zH]
     cases h0 : decide (n ≥ 0)
     · simp -dsimp only [Vm.E, zA, zB, zC, zD, zE, zG, zH, Tryz.results204]
       have : ¬ 0 ≤ n := by have := of_decide_eq_false h0; omega
       simpa [h8, hs, this] using hq
     · have h0' : 0 ≤ n := by have := of_decide_eq_true h0; omega
       simp -dsimp only [Vm.E, zA, zB, zC, zD, zE, zG, zH]
       have hk : ∃ k : Nat, k ≤ 7 ∧ size = k ∧ size.toNat = k := by
         rcases sized_cases hs with rfl | rfl | rfl | rfl
         · exact ⟨1, by decide, rfl, rfl⟩
         · exact ⟨2, by decide, rfl, rfl⟩
         · exact ⟨4, by decide, rfl, rfl⟩
         · cases h8
       obtain ⟨k, hk7, hk, hk2⟩ := hk
       refine call_one (S := powSpec) rfl _ (GaL.cons (.refl _) .nil) ⟨k, hk7, by rw [hk], ?_⟩
       simp -dsimp only [Vm.E, zA, zB, zC, zD, zE, zG, zH, Tryz.results204]
       have e : ((256 : Int) ^ k) = ((256 ^ k : Nat) : Int) := by simp
       rw [hk2, e] at hq
       simpa [h8, hs, h0'] using hq
 · simp -dsimp only [Vm.E, zA, zB, zC, zD, zE, zG, zH, h8, Tryz.results204]
   simpa [h8] using hq
theorem does_refPut : Does Tryz.prog 152 putSpec := by
 refine dA (good_cons does_refRight good_nil) Tryz.func152 rfl (by decide +kernel) ?_
 rintro args h Q ⟨l, n, size, hl, hn0, hn1, rfl, hq⟩
 refine ⟨by simp [Tryz.f152], ?_⟩
 simp -dsimp only [Vm.E, zA, zB, zC, zD, zE, zG, zH, Tryz.underlying123, append_nil ei123]
 refine app_sl Tryz.underlying123 (fun c hc => by obtain ⟨y, -, rfl⟩ := zOb.1 hc; rfl) ?_ ?_
 · simp only [zIa, zMa]; omega
 simp -dsimp only [Vm.E, zA, zB, zC, zD, zE, zG, zH]
 refine call_one (S := rightSpec) rfl _ GaL.rfl ⟨n, size, hn0, hn1, rfl, ?_⟩
 simp -dsimp only [Vm.E, zA, zB, zC, zD, zE, zG, zH]
 unfold putOf at hq
 cases hf : fits n size
 · simp -dsimp only [Vm.E, zA, zB, zC, zD, zE, zG, zH, Bool.not_false, Tryz.results152]
   simpa [hf] using hq
 · have hk : ∃ k : Nat, k ≤ 8 ∧ 1 ≤ k ∧ size = k ∧ size.toNat = k := by
     rcases sized_cases (fits_sized hf) with rfl | rfl | rfl | rfl
     · exact ⟨1, by decide, by decide, rfl, rfl⟩
     · exact ⟨2, by decide, by decide, rfl, rfl⟩
     · exact ⟨4, by decide, by decide, rfl, rfl⟩
     · exact ⟨8, by decide, by decide, rfl, rfl⟩
   obtain ⟨k, hk8, hk1, rfl, hk2⟩ := hk
   rw [hf, if_pos rfl, hk2] at hq
   simp -dsimp only [Vm.E, zA, zB, zC, zD, zE, zG, zH, Bool.not_true]
   have e1 : IntKind.i64.wrap ((k : Int) - 1) = (k : Int) - 1 - 0 := by
     rw [wrap_i64 (by omega) (by omega)]; omega
   rw [e1]
   refine awp_loop (fun m s h' => ∃ i : Nat, i + m = k ∧ h' = h ∧ s = mk [(1, .v (.int .i64 n)), (7, .own true 5 1 ((l ++ (be k n).take i).map encB)), (8, .v (.int .i64 ((k : Int) - 1 - i)))])
     k _ (le_mk _ ?_) ⟨0, by omega, rfl, rfl⟩ ?_
   · simp [init_get]
   · rintro m s h' ⟨i, hi, rfl, rfl⟩
     simp -dsimp only [Vm.E, zA, zB, zC, zD, zE, zG, zH]
     refine cond_intro (fun hc => ?_) (fun hc => ?_)
     · have hlt : i < k := by have := of_decide_eq_true hc; omega
       have ej : IntKind.i64.wrap (8 * ((k : Int) - 1 - i)) = ((8 * (k - 1 - i) : Nat) : Int) := by rw [wrap_i64 (by omega) (by omega)]; omega
       simp -dsimp only [Vm.E, zA, zB, zC, zD, zE, zG, zH]
       rw [ej]
       refine shr_intro (by omega) ?_
       simp -dsimp only [Vm.E, zA, zB, zC, zD, zE, zG, zH, cv3_5, byte_refPut n (k - 1 - i) (by omega), es123]
       refine bs_intro zr5 (by decide) (by decide) rfl rfl (by simp [solid, AV.cells]) ?_
       simp -dsimp only [Vm.E, zA, zB, zC, zD, zE, zG, zH, append_own ei123]
       refine app_sl Tryz.underlying123 (by simp [AV.cells]) ?_ ?_
       · have : ((be k n).take i).length ≤ i := by simp only [zUa]; omega
         simp only [zIa, zTb, zKa, zMa]
         omega
       simp -dsimp only [Vm.E, zA, zB, zC, zD, zE, zG, zH]
       refine kept_intro ⟨k - (i + 1), by omega, _, le_mk [(1, .v (.int .i64 n)), (7, .own true 5 1 ((l ++ (be k n).take (i + 1)).map encB)), (8, .v (.int .i64 ((k : Int) - 1 - (i + 1 : Nat))))] ?_, i + 1, by omega, rfl, rfl⟩
       simp only [Vm.D]
       simp -dsimp only [Vm.E, zA, zB, zC, zD, zE, zG, zH]
       rw [wrap_i64 (by omega) (by omega), be_take hlt]
       have e2 : (k : Int) - 1 - i - 1 = (k : Int) - 1 - (i + 1 : Nat) := by omega
       rw [e2]
       have e3 : (l ++ (be k n).take i).map encB ++ [AV.v (.int .u8 ((byteOf n (k - 1 - i)).toNat : Int))] = (l ++ ((be k n).take i ++ [byteOf n (k - 1 - i)])).map encB := by simp [encB]
       rw [e3]
       exact ⟨.refl _, .refl _, .refl _⟩
     · have hge : ¬ i < k := by have := of_decide_eq_false hc; omega
       simp -dsimp only [Vm.E, zA, zB, zC, zD, zE, zG, zH, Tryz.results152]
       have : i = k := by omega
       subst this
       rw [zJa (by simp [be])]
       exact hq
theorem idx_at (l : List UInt8) (n : Int) (i : Nat) (hn : n = i) (hi : i < l.length) {e : Nat} {K : AV → Prop} (hK : K (.eptr [.v (.int .u8 l[i].toNat)])) : awpIdx (some (e, 1)) (.sl 1 (l.map encB)) (.v (.int .i64 n)) K := by
 subst hn; exact idx_bytes l i hi hK
theorem does_refGet : Does Tryz.prog 246 getSpec := by
 refine dA (good_cons does_refSized good_nil) Tryz.func246 rfl (by decide +kernel) ?_
 rintro args h Q ⟨l, at_, size, hl, hat, rfl, hq⟩
 refine ⟨by simp [Tryz.f246], ?_⟩
 unfold getRes at hq
 simp -dsimp only [Vm.E, zA, zB, zC, zD, zE, zG, zH]
 refine call_one (S := sizedSpec) rfl _ GaL.rfl ⟨_, rfl, ?_⟩
 simp -dsimp only [Vm.E, zA, zB, zC, zD, zE, zG, zH]
 cases hs : sized size
 · simp -dsimp only [Vm.E, zA, zB, zC, zD, zE, zG, zH, Bool.not_false, Tryz.results246]
   simpa [hs] using hq
 · have hk : ∃ k : Nat, k ≤ 8 ∧ 1 ≤ k ∧ size = k ∧ size.toNat = k := by
     rcases sized_cases hs with rfl | rfl | rfl | rfl
     · exact ⟨1, by decide, by decide, rfl, rfl⟩
     · exact ⟨2, by decide, by decide, rfl, rfl⟩
     · exact ⟨4, by decide, by decide, rfl, rfl⟩
     · exact ⟨8, by decide, by decide, rfl, rfl⟩
   obtain ⟨k, hk8, hk1, rfl, hk2⟩ := hk
   simp -dsimp only [Vm.E, zA, zB, zC, zD, zE, zG, zH, Bool.not_true]
   cases h0 : decide (at_ < 0)
   · have h0' : ¬ at_ < 0 := of_decide_eq_false h0
     simp -dsimp only [Vm.E, zA, zB, zC, zD, zE, zG, zH, Tryz.underlying123]
     rw [wrap_i64 (n := (l.length : Int) - k) (by omega) (by omega)]
     refine cond_intro (fun h2 => ?_) (fun h2 => ?_)
     · have h2' : at_ > (l.length : Int) - k := of_decide_eq_true h2
       simp -dsimp only [Vm.E, zA, zB, zC, zD, zE, zG, zH, Tryz.results246]
       simpa [hs, h0', h2'] using hq
     · have h2' : ¬ at_ > (l.length : Int) - k := of_decide_eq_false h2
       simp -dsimp only [Vm.E, zA, zB, zC, zD, zE, zG, zH]
       have hlen : ((l.drop at_.toNat).take k).length = k := by simp; omega
       obtain ⟨p, hp⟩ : ∃ p : Nat, at_ = p := ⟨at_.toNat, by omega⟩
       subst hp
       rw [zNa] at hlen
       have hget : ∀ i (h : i < ((l.drop p).take k).length) (h2 : p + i < l.length), ((l.drop p).take k)[i] = l[p + i] := fun i h h2 => by simp
       generalize hb : (l.drop p).take k = b at hlen hget
       refine awp_loop (fun n s h' => ∃ i : Nat, i + n = k ∧ h' = h ∧ s = mk [(0, .sl 1 (l.map encB)), (1, .v (.int .i64 p)), (2, .v (.int .i64 k)), (8, .v (.int .i64 (getOf (b.take i)).toInt)), (9, .v (.int .i64 i))])
         k _ (le_mk _ ?_) ⟨0, by omega, rfl, rfl⟩ ?_
       · simp [init_get, getOf]
       · rintro n s h' ⟨i, hi, rfl, rfl⟩
         simp -dsimp only [Vm.E, zA, zB, zC, zD, zE, zG, zH]
         refine cond_intro (fun hc => ?_) (fun hc => ?_)
         · have hlt : i < k := by have := of_decide_eq_true hc; omega
           simp -dsimp only [Vm.E, zA, zB, zC, zD, zE, zG, zH]
           refine shl_intro (by decide) ?_
           rw [show min (Int.toNat 8) IntKind.i64.bits = 8 by decide, shl_i64]
           simp -dsimp only [Vm.E, zA, zB, zC, zD, zE, zG, zH, es123, as123]
           refine idx_at l _ (p + i) (by rw [wrap_i64 (by omega) (by omega)]; omega) (by omega) ?_
           simp -dsimp only [Vm.E, zA, zB, zC, zD, zE, zG, zH, of5, cv5_3, u8_i64, or_i64]
           refine kept_intro ⟨k - (i + 1), by omega, _, le_mk [(0, .sl 1 (l.map encB)), (1, .v (.int .i64 p)), (2, .v (.int .i64 k)), (8, .v (.int .i64 (getOf (b.take (i + 1))).toInt)), (9, .v (.int .i64 (i + 1 : Nat)))] ?_, i + 1, by omega, rfl, rfl⟩
           simp only [Vm.D]
           simp -dsimp only [Vm.E, zA, zB, zC, zD, zE, zG, zH]
           rw [get_take b i (by omega), hget i (by omega) (by omega), wrap_i64 (by omega) (by omega)]
           exact ⟨.refl _, .refl _, .refl _, .refl _, .refl _⟩
         · have hge : ¬ i < k := by have := of_decide_eq_false hc; omega
           simp -dsimp only [Vm.E, zA, zB, zC, zD, zE, zG, zH, Tryz.results246]
           rw [zJa (by omega)]
           simpa [hs, h0', h2', hk2, hb] using hq
   · have h0' : at_ < 0 := of_decide_eq_true h0
     simp -dsimp only [Vm.E, zA, zB, zC, zD, zE, zG, zH, Tryz.results246]
     simpa [hs, h0'] using hq
end Go.Proofs.Lx
namespace Go.Proofs.Lx
open Go.Vm
theorem bytesLess_cb : ∀ a b : List UInt8, Op.bytesLess a b = decide (Lib.compareBytes a b < 0)
 | [], [] => by simp [Op.bytesLess, Lib.compareBytes]
 | _ :: _, [] => by simp [Op.bytesLess, Lib.compareBytes]
 | [], _ :: _ => by simp [Op.bytesLess, Lib.compareBytes]
 | a :: x, b :: y => by
   have ih := bytesLess_cb x y
   simp only [Op.bytesLess, Lib.compareBytes, ih]
   by_cases h1 : a < b
   · simp [h1]
   · by_cases h2 : b < a
     · have : a ≠ b := fun e => by subst e; exact h1 h2
       simp [h1, h2, this]
     · have : a = b := by
         apply UInt8.toNat_inj.1
         have h3 : ¬ a.toNat < b.toNat := fun h => h1 (UInt8.lt_iff_toNat_lt.2 h)
         have h4 : ¬ b.toNat < a.toNat := fun h => h2 (UInt8.lt_iff_toNat_lt.2 h)
         omega
       subst this
       simp [h1]
abbrev kLt (a b : List UInt8) : Prop := Lib.compareBytes a b < 0
theorem kLt_irrefl (a : List UInt8) : ¬ kLt a a := by unfold kLt; rw [cb_self]; decide
theorem kLt_tri {a b : List UInt8} (h1 : ¬ kLt a b) (h2 : a ≠ b) : kLt b a := Classical.byContradiction fun h => h2 (cb_eq _ _ h1 h)
def tfind (k : List UInt8) (l : List KV) : Option (List UInt8) := (l.find? fun p => p.1 == k).map Prod.snd
def tput (k v : List UInt8) : List KV → List KV
 | [] => [(k, v)]
 | p :: r => if kLt p.1 k then p :: tput k v r else if p.1 = k then (k, v) :: r else (k, v) :: p :: r
theorem tput_set (k v : List UInt8) : ∀ (l : List KV) (i : Nat) (hi : i < l.length), (∀ j (hj : j < i), kLt (l[j]'(by omega)).1 k) → l[i].1 = k → tput k v l = l.set i (k, v)
 | p :: r, 0, hi, _, he => by
   have he : p.1 = k := he
   have : ¬ kLt p.1 k := by rw [he]; exact kLt_irrefl k
   simp [tput, this, he, kLt_irrefl]
 | p :: r, i + 1, hi, hb, he => by
   have h0 : kLt p.1 k := hb 0 (by omega)
   have ih := tput_set k v r i (by simpa using hi) (fun j hj => hb (j + 1) (by omega)) he
   simp [tput, h0, ih]
theorem tput_ins (k v : List UInt8) : ∀ (l : List KV) (i : Nat) (hi : i ≤ l.length), (∀ j (hj : j < i), kLt (l[j]'(by omega)).1 k) → (∀ h : i < l.length, ¬ kLt l[i].1 k ∧ l[i].1 ≠ k) → tput k v l = l.take i ++ (k, v) :: l.drop i
 | [], i, hi, _, _ => by
   obtain rfl : i = 0 := by simpa using hi
   rfl
 | p :: r, 0, hi, _, he => by
   have := he (by simp)
   have h1 : ¬ kLt p.1 k := this.1
   have h2 : p.1 ≠ k := this.2
   simp [tput, h1, h2]
 | p :: r, i + 1, hi, hb, he => by
   have h0 : kLt p.1 k := hb 0 (by omega)
   have ih := tput_ins k v r i (by simpa using hi) (fun j hj => hb (j + 1) (by omega)) (fun h => he (by simpa using h))
   simp [tput, h0, ih]
theorem tput_length (k v : List UInt8) : ∀ l : List KV, (tput k v l).length ≤ l.length + 1
 | [] => by simp [tput]
 | p :: r => by
   have := tput_length k v r
   simp only [tput]
   split
   · simpa using this
   · split <;> simp
theorem tput_mem1 {k v : List UInt8} {q : KV} : ∀ {l : List KV}, q ∈ tput k v l → q = (k, v) ∨ q ∈ l
 | [], h => by simp [tput] at h; exact .inl h
 | p :: r, h => by
   simp only [tput] at h
   split at h
   · rcases zOa.1 h with h | h
     · exact .inr (h ▸ zRa ..)
     · rcases tput_mem1 h with h | h
       · exact .inl h
       · exact .inr (zXa _ h)
   · split at h
     · rcases zOa.1 h with h | h
       · exact .inl h
       · exact .inr (zXa _ h)
     · rcases zOa.1 h with h | h
       · exact .inl h
       · exact .inr h
theorem tput_sorted {k v : List UInt8} : ∀ {l : List KV}, l.Pairwise keyLt → (tput k v l).Pairwise keyLt
 | [], _ => by simp [tput]
 | p :: r, h => by
   have h' := zLb.1 h
   simp only [tput]
   split
   · rename_i hlt
     refine zLb.2 ⟨fun q hq => ?_, tput_sorted h'.2⟩
     rcases tput_mem1 hq with rfl | hq
     · exact hlt
     · exact h'.1 q hq
   · rename_i hlt
     split
     · rename_i he
       refine zLb.2 ⟨fun q hq => ?_, h'.2⟩
       have := h'.1 q hq
       show kLt k q.1
       rw [← he]; exact this
     · rename_i hne
       have hk := kLt_tri hlt hne
       refine zLb.2 ⟨fun q hq => ?_, h⟩
       rcases zOa.1 hq with rfl | hq
       · exact hk
       · exact cb_trans _ _ _ hk (h'.1 q hq)
theorem tput_mem {k v k' v' : List UInt8} : ∀ {l : List KV}, l.Pairwise keyLt → ((k', v') ∈ tput k v l ↔ if k' = k then v' = v else (k', v') ∈ l)
 | [], _ => by simp only [tput, zQb, Prod.mk.injEq, zPb]; split <;> simp_all
 | p :: r, h => by
   have h' := zLb.1 h
   have ih := tput_mem (k := k) (v := v) (k' := k') (v' := v') h'.2
   have hnk : ∀ {k'}, ¬ kLt p.1 k' → (k', v') ∈ r → False := fun hn hm => hn (h'.1 _ hm)
   simp only [tput]
   split
   · rename_i hlt
     rw [zOa, ih]
     by_cases hk : k' = k
     · subst hk
       have : ¬ (k', v') = p := fun e => by rw [← e] at hlt; exact kLt_irrefl _ hlt
       simp [this]
     · simp [hk]
   · rename_i hlt
     split
     · rename_i he
       by_cases hk : k' = k
       · subst hk
         simp only [zOa, Prod.mk.injEq, true_and, if_true, or_iff_left_iff_imp]
         exact fun hm => (hnk hlt hm).elim
       · have : ¬ (k', v') = p := fun e => hk (by rw [← he, ← e])
         simp [hk, this]
     · rename_i hne
       by_cases hk : k' = k
       · subst hk
         have h3 : ¬ (k', v') = p := fun e => hne (by rw [← e])
         simp only [zOa, Prod.mk.injEq, true_and, if_true, or_iff_left_iff_imp]
         rintro (hm | hm)
         · exact (h3 hm).elim
         · exact (hnk hlt hm).elim
       · simp [hk]
theorem tfind_iff {k v : List UInt8} : ∀ {l : List KV}, l.Pairwise keyLt → (tfind k l = some v ↔ (k, v) ∈ l)
 | [], _ => by simp [tfind]
 | p :: r, h => by
   have h' := zLb.1 h
   have ih := tfind_iff (k := k) (v := v) h'.2
   unfold tfind at ih ⊢
   rw [List.find?_cons]
   cases hp : (p.1 == k)
   · have : p.1 ≠ k := by simpa using hp
     simp only [ih, zOa]
     have : ¬ (k, v) = p := fun e => this (by rw [← e])
     simp [this]
   · have hk : p.1 = k := by simpa using hp
     simp only [Option.map_some, Option.some.injEq, zOa]
     constructor
     · rintro rfl; exact .inl (by rw [← hk])
     · rintro (e | hm)
       · rw [← e]
       · exact absurd (h'.1 _ hm) (by show ¬ kLt p.1 k; rw [hk]; exact kLt_irrefl k)
def TabIs (f : Fun) (l : List KV) : Prop := l.Pairwise keyLt ∧ ∀ k v, (k, v) ∈ l ↔ f k = some v
theorem TabIs.find {f : Fun} {l : List KV} (h : TabIs f l) (k : List UInt8) : tfind k l = f k := by
 cases hx : tfind k l with
 | some v => exact ((h.2 k v).1 ((tfind_iff h.1).1 hx)).symm
 | none =>
   cases hy : f k with
   | none => rfl
   | some v =>
     have := (tfind_iff h.1).2 ((h.2 k v).2 hy)
     rw [hx] at this; cases this
theorem TabIs.put {f : Fun} {l : List KV} (h : TabIs f l) (k v : List UInt8) : TabIs (upd f k (some v)) (tput k v l) := by
 refine ⟨tput_sorted h.1, fun k' v' => ?_⟩
 rw [tput_mem h.1]
 show _ ↔ (if k' = k then some v else f k') = some v'
 by_cases hk : k' = k
 · simp only [hk, if_true, Option.some.injEq]; exact eq_comm
 · simp only [hk, if_false]; exact h.2 k' v'
theorem TabIs.new : TabIs noF [] := ⟨.nil, fun k v => by simp [noF]⟩
theorem TabIs.scan {f : Fun} {l : List KV} (h : TabIs f l) (pre : List UInt8) : ScanIs f pre (l.filter fun p => pre.isPrefixOf p.1) := by
 refine ⟨h.1.sublist List.filter_sublist, fun k v => ?_⟩
 rw [List.mem_filter, h.2]
theorem sorted_same : ∀ {l l' : List KV}, l.Pairwise keyLt → l'.Pairwise keyLt → (∀ p, p ∈ l ↔ p ∈ l') → l = l'
 | [], [], _, _, _ => rfl
 | [], q :: r, _, _, h => by have := (h q).2 (zRa ..); cases this
 | p :: r, [], _, _, h => by have := (h p).1 (zRa ..); cases this
 | p :: r, q :: r', h1, h2, h => by
   have g1 := zLb.1 h1
   have g2 := zLb.1 h2
   have e : p = q := by
     rcases zOa.1 ((h p).1 (zRa ..)) with e | hm
     · exact e
     · rcases zOa.1 ((h q).2 (zRa ..)) with e | hm2
       · exact e.symm
       · exact absurd (g1.1 q hm2) (cb_asymm _ _ (g2.1 p hm))
   subst e
   congr 1
   refine sorted_same g1.2 g2.2 fun x => ?_
   have hx := h x
   simp only [zOa] at hx
   constructor
   · intro hm
     rcases hx.1 (.inr hm) with e | e
     · subst e; exact absurd (g1.1 x hm) (kLt_irrefl _)
     · exact e
   · intro hm
     rcases hx.2 (.inr hm) with e | e
     · subst e; exact absurd (g2.1 x hm) (kLt_irrefl _)
     · exact e
theorem ScanIs.same {f : Fun} {pre : List UInt8} {l l' : List KV} (h : ScanIs f pre l) (h' : ScanIs f pre l') : l = l' :=
 sorted_same h.1 h'.1 fun p => (h.2 p.1 p.2).trans (h'.2 p.1 p.2).symm
end Go.Proofs.Lx
namespace Go.Proofs.Lx
open Go.Vm
attribute [local irreducible] awpArr awpBin awpMake awpAppend awpCvX awpStrOf awpBinX awpSlice awpBS awpStore awpAlloc awpCopy awpIndex awpDraw awpIdxX awpFa awpField awpLookup awpUpdate awpDelete awpClear awpRange awpNext awpEntry awpBuild awpClearS awpIdxL awpTree appB
def rRightSpec : Vm.Spec := fun args h Q => ∃ k v : List UInt8, args = [.sl 1 (k.map encB), .sl 1 (v.map encB)] ∧ Q (.v (.bool (rightKV k v))) h
theorem does_rRight : Does Tryz.prog 150 rRightSpec := by
 refine dA good_nil Tryz.func150 rfl (by decide +kernel) ?_
 rintro args h Q ⟨k, v, rfl, hq⟩
 refine ⟨by simp [Tryz.f150], ?_⟩
 simp -dsimp only [Vm.E, zA, zB, zC, zD, zE, zG, zH, Tryz.underlying123]
 by_cases d1 : 1 ≤ k.length
 · have c1 : decide ((k.length : Int) ≥ 1) = true := decide_eq_true (by omega)
   simp -dsimp only [Vm.E, zA, zB, zC, zD, zE, zG, zH, c1, Tryz.underlying123]
   by_cases d2 : k.length ≤ 32
   · have c2 : decide ((k.length : Int) ≤ 32) = true := decide_eq_true (by omega)
     simp -dsimp only [Vm.E, zA, zB, zC, zD, zE, zG, zH, c2, Tryz.underlying123, Tryz.results150]
     have : rightKV k v = decide ((v.length : Int) ≤ 120) := by
       unfold rightKV
       have e1 : ¬ k.length < 1 := by omega
       have e2 : ¬ 32 < k.length := by omega
       by_cases e : v.length ≤ 120
       · have : ¬ 120 < v.length := by omega
         have e3 : ((v.length : Int) ≤ 120) := by omega
         have e4 : ¬ ((120 : Int) < v.length) := by omega
         have e5 : ¬ ((32 : Int) < k.length) := by omega
         have e6 : ¬ ((k.length : Int) < 1) := by omega
         simp [e3, e4, e5, e6]
       · have e3 : ¬ ((v.length : Int) ≤ 120) := by omega
         have e4 : ((120 : Int) < v.length) := by omega
         simp [e3, e4]
     rw [← this]; exact hq
   · have c2 : decide ((k.length : Int) ≤ 32) = false := decide_eq_false (by omega)
     simp -dsimp only [Vm.E, zA, zB, zC, zD, zE, zG, zH, c2, Tryz.underlying123, Tryz.results150]
     have : rightKV k v = false := by unfold rightKV; simp; omega
     rw [this] at hq; exact hq
 · have c1 : decide ((k.length : Int) ≥ 1) = false := decide_eq_false (by omega)
   simp -dsimp only [Vm.E, zA, zB, zC, zD, zE, zG, zH, c1, Tryz.underlying123, Tryz.results150]
   have : rightKV k v = false := by unfold rightKV; simp; omega
   rw [this] at hq; exact hq
def tabObj (l : List KV) : AObj := .cells [.sl 2 (l.map kvAv)]
def tGetSpec : Vm.Spec := fun args h Q => ∃ (i : Nat) (l : List KV) (k : List UInt8), args = [.ptr i 0, .sl 1 (k.map encB)] ∧ h[i]? = some (tabObj l) ∧ l.length ≤ 1073741824 ∧ (∀ p ∈ l, p.2.length ≤ 1073741824) ∧
 (∀ v, tfind k l = some v → Q (.tup [.sl 1 (v.map encB), .v (.bool true)]) h) ∧ (tfind k l = none → Q (.tup [.v (.slice none 0 0), .v (.bool false)]) h)
theorem tfind_at {k : List UInt8} {l : List KV} {i : Nat} (hi : i < l.length) (hb : ∀ j (hj : j < i), (l[j]'(by omega)).1 ≠ k) (he : l[i].1 = k) : tfind k l = some l[i].2 := by
 unfold tfind
 have : l.find? (fun p => p.1 == k) = some l[i] := by
   rw [List.find?_eq_some_iff_getElem]
   exact ⟨by simpa using he, i, hi, rfl, fun j hj => by simpa using hb j hj⟩
 rw [this]; rfl
theorem tfind_no {k : List UInt8} {l : List KV} (hb : ∀ j (hj : j < l.length), l[j].1 ≠ k) : tfind k l = none := by
 unfold tfind
 rw [List.find?_eq_none.2 fun p hp => ?_]; rfl
 obtain ⟨j, hj, rfl⟩ := List.getElem_of_mem hp
 simpa using hb j hj
theorem does_tGet : Does Tryz.prog 203 tGetSpec := by
 refine does_of_awp good_nil Tryz.func203 rfl (by decide +kernel) (by decide +kernel) ?_
 rintro args h Q ⟨id, l, k, rfl, hh, hl, hvl, hq1, hq2⟩
 unfold tabObj at hh
 refine ⟨by simp [Tryz.f203], ?_⟩
 rw [awpFunc_some (by rfl)]
 simp -dsimp only [Vm.E, zA, zB, zC, zD, zE, zG, zH]
 refine awp_loop (fun m s h' => ∃ i : Nat, i + m = l.length ∧ h' = h ∧ (∀ j (hj : j < l.length), j < i → l[j].1 ≠ k) ∧ s = mk [(0, .ptr id 0), (1, .sl 1 (k.map encB)), (6, .v (.int .i64 i))])
   l.length _ (le_mk _ ?_) ⟨0, by omega, rfl, fun j _ hj => by omega, rfl⟩ ?_
 · simp only [Vm.D]
   simp -dsimp only [Vm.E, zA, zB, zC, zD, zE, zG, zH]
   exact ⟨.refl _, .refl _, .refl _⟩
 · rintro m s h' ⟨i, hi, rfl, hb, rfl⟩
   simp -dsimp only [Vm.E, zA, zB, zC, zD, zE, zG, zH, fo74_0, hh, of60, Tryz.underlying60]
   refine cond_intro (fun hcc => ?_) (fun hcc => ?_)
   · have hlt : i < l.length := by have := of_decide_eq_true hcc; omega
     have hw := hwN i (by omega)
     obtain ⟨p, hp⟩ : ∃ p, l[i] = p := ⟨_, rfl⟩
     have hvp : p.2.length ≤ 1073741824 := hvl p (hp ▸ zJb hlt)
     have hf1 : p.1 = k → tfind k l = some p.2 := fun e => by rw [← hp]; exact tfind_at hlt (fun j hj => hb j _ hj) (by rw [hp]; exact e)
     simp -dsimp only [Vm.E, zA, zB, zC, zD, zE, zG, zH]
     refine draw_cont [] (.take 0 (.take 1 (.take 2 (.take 4 (.take 9 (.take 10 (.alt 3 (.take 5 (.take 6 (.take 7 (.take 8 (.take 11 (.done)))))) .stop))))))) (fun s h2 => h2 = h' ∧ s 27 = .v (.bool (p.1 == k)) ∧ s 0 = .ptr id 0 ∧ s 1 = .sl 1 (k.map encB) ∧ s 6 = .v (.int .i64 i)) (by kernel_rfl) (by kernel_rfl) (by kernel_rfl) (by decide) ?_ ?_
     · simp -dsimp only [Vm.G, zA, zB, zC, zD, zE, zF, fo74_0, hh, of60, es60, as60, Tryz.underlying123, cs123]
       refine strOf_sl bt123 k rfl ?_
       simp -dsimp only [Vm.G, zA, zB, zC, zD, zE, zF, fo74_0, hh, of60, es60, as60, Tryz.underlying123, cs123, fo132_0, fo132_1, of123, AV.cells, Tryz.underlying60]
       refine idx_map kvAv l i hlt ?_
       simp only [hp, kvAv]
       simp -dsimp only [Vm.G, zA, zB, zC, zD, zE, zF, fo74_0, hh, of60, es60, as60, Tryz.underlying123, cs123, fo132_0, fo132_1, of123, AV.cells, Tryz.underlying60]
       refine strOf_sl bt123 p.1 rfl ?_
       simp -dsimp only [Vm.G, zA, zB, zC, zD, zE, zF, fo74_0, hh, of60, es60, as60, Tryz.underlying123, cs123, fo132_0, fo132_1, of123, AV.cells, Tryz.underlying60]
       simp -dsimp only [Vm.E, zA, zB, zC, zD, zE, zG, zH, str_eql, toList_mk]
     · rintro s h2 ⟨rfl, e27, e0, e1, e6⟩
       cases c1 : (p.1 == k)
       · rw [c1] at e27
         simp -dsimp only [Vm.E, zA, zB, zC, zD, zE, zG, zH, e27, e6, hw]
         refine kept_intro ⟨l.length - (i + 1), by omega, _, le_mk [(0, .ptr id 0), (1, .sl 1 (k.map encB)), (6, .v (.int .i64 (i + 1 : Nat)))] ?_, i + 1, by omega, rfl, fun j hj hj2 => ?_, rfl⟩
         · simp only [Vm.D]
           simp -dsimp only [Vm.E, zA, zB, zC, zD, zE, zG, zH, e0, e1]
           exact ⟨.refl _, .refl _, .refl _⟩
         · by_cases hji : j = i
           · subst hji; rw [hp]; simpa using c1
           · exact hb j hj (by omega)
       · rw [c1] at e27
         have hf := hq1 _ (hf1 (by simpa using c1))
         simp -dsimp only [Vm.E, zA, zB, zC, zD, zE, zG, zH, e27, e6, e0, e1, Vm.S, Nat.reduceLeDiff, fo74_0, hh, of60, es60, as60, Tryz.underlying123, cs123, fo132_0, fo132_1, of123, AV.cells, Tryz.underlying60]
         refine idx_map kvAv l i hlt ?_
         simp only [hp, kvAv]
         simp -dsimp only [Vm.E, zA, zB, zC, zD, zE, zG, zH, e27, e6, e0, e1, Vm.S, Nat.reduceLeDiff, fo74_0, hh, of60, es60, as60, Tryz.underlying123, cs123, fo132_0, fo132_1, of123, AV.cells, Tryz.underlying60]
         simp -dsimp only [Vm.E, zA, zB, zC, zD, zE, zG, zH, e27, e6, e0, e1, append_nil ei123]
         refine app_sl Tryz.underlying123 (fun c hc => by obtain ⟨y, -, rfl⟩ := zOb.1 hc; rfl) (by simp only [zIa, zMa]; omega) ?_
         simp -dsimp only [Vm.E, zA, zB, zC, zD, zE, zG, zH, e27, e6, e0, e1, Tryz.results203]
         exact hf
   · have hge : ¬ i < l.length := by have := of_decide_eq_false hcc; omega
     simp -dsimp only [Vm.E, zA, zB, zC, zD, zE, zG, zH, Tryz.results203]
     exact hq2 (tfind_no fun j hj => hb j hj (by omega))
theorem str_lss {t : TypeId} {a b : ByteArray} {KV : Value → Prop} : awpBin Tryz.prog .lss t (.v (.string a)) (.v (.string b)) KV = KV (.bool (Op.bytesLess a.toList b.toList)) := by simp [awpBin]
def lessAt (l : List KV) (i : Nat) (k : List UInt8) : Bool := (l[i]?.map fun p => decide (kLt p.1 k)).getD false
def sameAt (l : List KV) (i : Nat) (k : List UInt8) : Bool := (l[i]?.map fun p => p.1 == k).getD false
theorem lessAt_true {l : List KV} {i : Nat} {k : List UInt8} (h : lessAt l i k = true) : ∃ hi : i < l.length, kLt l[i].1 k := by
 unfold lessAt at h
 by_cases hi : i < l.length
 · rw [zKb hi] at h; exact ⟨hi, by simpa using h⟩
 · rw [zMb (by omega)] at h; cases h
theorem sameAt_true {l : List KV} {i : Nat} {k : List UInt8} (h : sameAt l i k = true) : ∃ hi : i < l.length, l[i].1 = k := by
 unfold sameAt at h
 by_cases hi : i < l.length
 · rw [zKb hi] at h; exact ⟨hi, by simpa using h⟩
 · rw [zMb (by omega)] at h; cases h
theorem tput_at {k v : List UInt8} {l : List KV} {i : Nat} (hi : i ≤ l.length) (hb : ∀ j (hj : j < l.length), j < i → kLt l[j].1 k) (h1 : lessAt l i k = false) (h2 : sameAt l i k = false) : tput k v l = l.take i ++ (k, v) :: l.drop i := by
 refine tput_ins k v l i hi (fun j hj => hb j _ hj) fun h => ?_
 unfold lessAt at h1; unfold sameAt at h2
 rw [zKb h] at h1 h2
 exact ⟨by simpa using h1, by simpa using h2⟩
def tPutSpec : Vm.Spec := fun args h Q => ∃ (i : Nat) (l : List KV) (k v : List UInt8), args = [.ptr i 0, .sl 1 (k.map encB), .sl 1 (v.map encB)] ∧ h[i]? = some (tabObj l) ∧ l.length ≤ 1073741824 ∧ k.length ≤ 1073741824 ∧ v.length ≤ 1073741824 ∧
 Q (.tup []) (h.set i (tabObj (tput k v l)))
theorem does_tPut : Does Tryz.prog 151 tPutSpec := by
 refine does_of_awp good_nil Tryz.func151 rfl (by decide +kernel) (by decide +kernel) ?_
 rintro args h Q ⟨id, l, k, v, rfl, hh, hl, hkl, hvl, hq⟩
 unfold tabObj at hh hq
 refine ⟨by simp [Tryz.f151], ?_⟩
 rw [awpFunc_some (by rfl)]
 simp -dsimp only [Vm.E, zA, zB, zC, zD, zE, zG, zH, append_nil ei123]
 refine app_sl Tryz.underlying123 (fun c hc => by obtain ⟨y, -, rfl⟩ := zOb.1 hc; rfl) (by simp only [zIa, zMa]; omega) ?_
 simp -dsimp only [Vm.E, zA, zB, zC, zD, zE, zG, zH, append_nil ei123]
 refine app_sl Tryz.underlying123 (fun c hc => by obtain ⟨y, -, rfl⟩ := zOb.1 hc; rfl) (by simp only [zIa, zMa]; omega) ?_
 simp -dsimp only [Vm.G, zA, zB, zC, zD, zE, zF, zRb, bd132, al132, sz132]
 refine awp_loop (fun m s h' => ∃ i : Nat, i + m = l.length ∧ h' = h ∧ (∀ j (hj : j < l.length), j < i → kLt l[j].1 k) ∧ s = mk [(0, .ptr id 0), (1, .sl 1 (k.map encB)), (6, .box [.sl 1 (k.map encB), .sl 1 (v.map encB)]), (7, .v (.int .i64 i))])
   l.length _ (le_mk _ ?_) ⟨0, by omega, rfl, fun j _ hj => by omega, rfl⟩ ?_
 · simp only [Vm.D]
   simp -dsimp only [Vm.E, zA, zB, zC, zD, zE, zG, zH]
   exact ⟨.refl _, .refl _, .refl _, .refl _⟩
 · rintro m s h' ⟨i, hi, rfl, hb, rfl⟩
   simp -dsimp only [Vm.E, zA, zB, zC, zD, zE, zG, zH]
   have hw : i < l.length → IntKind.i64.wrap ((i : Int) + 1) = ((i + 1 : Nat) : Int) := fun hlt => by rw [wrap_i64 (by omega) (by omega)]; simp
   refine draw_cont [] (.take 0 (.take 1 (.take 2 (.take 3 (.alt 4 (.take 5 (.take 6 (.take 7 (.take 8 (.take 9 (.take 10 (.take 12 (.take 17 (.alt 11 (.take 13 (.take 14 (.alt 15 (.alt 16 (.alt 18 (.take 19 (.take 20 (.done))) .stop) (.alt 18 (.alt 16 (.take 19 (.take 20 (.done))) .stop) (.stop))) (.alt 18 (.alt 15 (.alt 16 (.take 19 (.take 20 (.done))) .stop) .stop) (.stop))))) (.alt 18 (.alt 11 (.take 13 (.take 14 (.alt 15 (.alt 16 (.take 19 (.take 20 (.done))) .stop) .stop))) .stop) (.stop))))))))))) .stop))))) (fun s hx => hx = h' ∧ s 34 = .v (.bool (lessAt l i k)) ∧ s 0 = .ptr id 0 ∧ s 1 = .sl 1 (k.map encB) ∧ s 6 = .box [.sl 1 (k.map encB), .sl 1 (v.map encB)] ∧ s 7 = .v (.int .i64 i)) (by kernel_rfl) (by kernel_rfl) (by kernel_rfl) (by decide) ?_ ?_
   · by_cases hlt : i < l.length
     · have c1 : decide ((i : Int) < l.length) = true := decide_eq_true (by omega)
       obtain ⟨p, hp⟩ : ∃ p, l[i] = p := ⟨_, rfl⟩
       have hv : (lessAt l i k) = decide (kLt p.1 k) := by unfold lessAt; rw [zKb hlt, hp]; rfl
       simp only [hv]
       repeat' first
         | with_reducible exact True.intro
         | simp -dsimp only [Vm.G, zA, zB, zC, zD, zE, zF, fo74_0, hh, of60, es60, as60, Tryz.underlying123, cs123, fo132_0, fo132_1, of123, AV.cells, Tryz.underlying60, c1, str_eql, str_lss, toList_mk, bytesLess_cb]
         | refine strOf_sl bt123 k rfl ?_
         | refine strOf_sl bt123 p.1 rfl ?_
         | (refine idx_map kvAv l i hlt ?_; simp only [hp, kvAv])
         | refine tree_alt ?_ ?_
     · have c1 : decide ((i : Int) < l.length) = false := decide_eq_false (by omega)
       have hv : (lessAt l i k) = false := by unfold lessAt; rw [zMb (by omega)]; rfl
       simp only [hv]
       repeat' first
         | with_reducible exact True.intro
         | simp -dsimp only [Vm.G, zA, zB, zC, zD, zE, zF, fo74_0, hh, of60, es60, as60, Tryz.underlying123, cs123, fo132_0, fo132_1, of123, AV.cells, Tryz.underlying60, c1]
         | refine tree_alt ?_ ?_
   · rintro s h2 ⟨rfl, e34, e0, e1, e6, e7⟩
     cases hb2 : lessAt l i k
     · rw [hb2] at e34
       simp -dsimp only [Vm.E, zA, zB, zC, zD, zE, zG, zH, e34, e0, e1, e6, e7]
       refine draw_cont [] (.take 0 (.take 1 (.take 2 (.take 3 (.alt 4 (.take 5 (.take 6 (.take 7 (.take 8 (.take 9 (.take 10 (.take 12 (.take 17 (.alt 11 (.take 13 (.take 14 (.alt 15 (.alt 16 (.alt 18 (.take 19 (.take 20 (.done))) .stop) (.alt 18 (.alt 16 (.take 19 (.take 20 (.done))) .stop) (.stop))) (.alt 18 (.alt 15 (.alt 16 (.take 19 (.take 20 (.done))) .stop) .stop) (.stop))))) (.alt 18 (.alt 11 (.take 13 (.take 14 (.alt 15 (.alt 16 (.take 19 (.take 20 (.done))) .stop) .stop))) .stop) (.stop))))))))))) .stop))))) (fun s hx => hx = h2 ∧ s 57 = .v (.bool (sameAt l i k)) ∧ s 0 = .ptr id 0 ∧ s 1 = .sl 1 (k.map encB) ∧ s 6 = .box [.sl 1 (k.map encB), .sl 1 (v.map encB)] ∧ s 7 = .v (.int .i64 i)) (by kernel_rfl) (by kernel_rfl) (by kernel_rfl) (by decide) ?_ ?_
       · by_cases hlt : i < l.length
         · have c1 : decide ((i : Int) < l.length) = true := decide_eq_true (by omega)
           obtain ⟨p, hp⟩ : ∃ p, l[i] = p := ⟨_, rfl⟩
           have hv : (sameAt l i k) = (p.1 == k) := by unfold sameAt; rw [zKb hlt, hp]; rfl
           simp only [hv]
           repeat' first
             | with_reducible exact True.intro
             | simp -dsimp only [Vm.G, zA, zB, zC, zD, zE, zF, fo74_0, hh, of60, es60, as60, Tryz.underlying123, cs123, fo132_0, fo132_1, of123, AV.cells, Tryz.underlying60, c1, str_eql, str_lss, toList_mk, bytesLess_cb, e34, e0, e1, e6, e7]
             | refine strOf_sl bt123 k rfl ?_
             | refine strOf_sl bt123 p.1 rfl ?_
             | (refine idx_map kvAv l i hlt ?_; simp only [hp, kvAv])
             | refine tree_alt ?_ ?_
         · have c1 : decide ((i : Int) < l.length) = false := decide_eq_false (by omega)
           have hv : (sameAt l i k) = false := by unfold sameAt; rw [zMb (by omega)]; rfl
           simp only [hv]
           repeat' first
             | with_reducible exact True.intro
             | simp -dsimp only [Vm.G, zA, zB, zC, zD, zE, zF, fo74_0, hh, of60, es60, as60, Tryz.underlying123, cs123, fo132_0, fo132_1, of123, AV.cells, Tryz.underlying60, c1, e34, e0, e1, e6, e7]
             | refine tree_alt ?_ ?_
       · rintro s3 h3 ⟨rfl, e57, f0, f1, f6, f7⟩
         clear e34 e0 e1 e6 e7
         cases hb4 : sameAt l i k
         · rw [hb4] at e57
           simp -dsimp only [Vm.E, zA, zB, zC, zD, zE, zG, zH, e57, f0, f1, f6, f7]
           have hput := tput_at (k := k) (v := v) (by omega) hb hb2 hb4
           have hil : i ≤ l.length := by omega
           have e1 : (l.map kvAv).take (i : Int).toNat = (l.take i).map kvAv := by rw [zNa, List.map_take]
           have e2 : (l.map kvAv).drop (i : Int).toNat = (l.drop i).map kvAv := by rw [zNa, List.map_drop]
           have hu : ∀ (l : List KV), ∀ c ∈ l.map kvAv, c.cells.length = 2 := fun l c hc => by obtain ⟨y, -, rfl⟩ := zOb.1 hc; rfl
           have hfin : (l.take i).map kvAv ++ [AV.agg [.sl 1 (k.map encB), .sl 1 (v.map encB)]] ++ (l.drop i).map kvAv = (tput k v l).map kvAv := by rw [hput]; simp [kvAv]
           refine draw_cont [6] (.take 0 (.take 1 (.take 2 (.take 3 (.take 5 (.take 8 (.take 11 (.take 12 (.take 13 (.take 15 (.alt 4 (.take 6 (.alt 7 (.alt 9 (.alt 10 (.alt 14 (.take 16 (.alt 17 (.take 18 (.take 19 (.alt 20 (.done) .stop))) .stop)) .stop) (.alt 14 (.take 16 (.alt 10 (.alt 17 (.take 18 (.take 19 (.alt 20 (.done) .stop))) .stop) .stop)) (.stop))) (.alt 14 (.take 16 (.alt 9 (.alt 10 (.alt 17 (.take 18 (.take 19 (.alt 20 (.done) .stop))) .stop) .stop) .stop)) (.stop))) (.alt 9 (.alt 7 (.alt 10 (.alt 14 (.take 16 (.alt 17 (.take 18 (.take 19 (.alt 20 (.done) .stop))) .stop)) .stop) (.alt 14 (.take 16 (.alt 10 (.alt 17 (.take 18 (.take 19 (.alt 20 (.done) .stop))) .stop) .stop)) (.stop))) (.alt 14 (.take 16 (.alt 7 (.alt 10 (.alt 17 (.take 18 (.take 19 (.alt 20 (.done) .stop))) .stop) .stop) .stop)) (.stop))) (.alt 14 (.take 16 (.alt 7 (.alt 9 (.alt 10 (.alt 17 (.take 18 (.take 19 (.alt 20 (.done) .stop))) .stop) .stop) .stop) (.alt 9 (.alt 7 (.alt 10 (.alt 17 (.take 18 (.take 19 (.alt 20 (.done) .stop))) .stop) .stop) .stop) (.stop)))) (.stop))))) (.alt 9 (.alt 4 (.take 6 (.alt 7 (.alt 10 (.alt 14 (.take 16 (.alt 17 (.take 18 (.take 19 (.alt 20 (.done) .stop))) .stop)) .stop) (.alt 14 (.take 16 (.alt 10 (.alt 17 (.take 18 (.take 19 (.alt 20 (.done) .stop))) .stop) .stop)) (.stop))) (.alt 14 (.take 16 (.alt 7 (.alt 10 (.alt 17 (.take 18 (.take 19 (.alt 20 (.done) .stop))) .stop) .stop) .stop)) (.stop)))) (.alt 14 (.take 16 (.alt 4 (.take 6 (.alt 7 (.alt 10 (.alt 17 (.take 18 (.take 19 (.alt 20 (.done) .stop))) .stop) .stop) .stop)) .stop)) (.stop))) (.alt 14 (.take 16 (.alt 4 (.take 6 (.alt 7 (.alt 9 (.alt 10 (.alt 17 (.take 18 (.take 19 (.alt 20 (.done) .stop))) .stop) .stop) .stop) (.alt 9 (.alt 7 (.alt 10 (.alt 17 (.take 18 (.take 19 (.alt 20 (.done) .stop))) .stop) .stop) .stop) (.stop)))) (.alt 9 (.alt 4 (.take 6 (.alt 7 (.alt 10 (.alt 17 (.take 18 (.take 19 (.alt 20 (.done) .stop))) .stop) .stop) .stop)) .stop) (.stop)))) (.stop)))))))))))))) (fun s hx => hx = h3.set id (tabObj (tput k v l))) (by kernel_rfl) (by kernel_rfl) (by kernel_rfl) (by decide) ?_ ?_
           · clear hq hb hw
             repeat' first
               | with_reducible exact True.intro
               | simp -dsimp only [Vm.G, zA, zB, zC, zD, zE, zF, fo74_0, hh, of60, es60, as60, Tryz.underlying123, cs123, fo132_0, fo132_1, of123, AV.cells, Tryz.underlying60, f0, f1, f6, f7, e1, e2, zRb, of132, append_nil ei60, append_own ei60, hfin, tabObj, sz60]
               | refine tree_alt ?_ ?_
               | refine slice_h es60 (by omega) (by rw [zIa]; omega) ?_
               | refine slice_l es60 (by omega) (by rw [zIa]; omega) ?_
               | refine bs_intro zr132 (by decide) (by decide) rfl rfl (by simp [solid, AV.cells]) ?_
               | refine app_sl Tryz.underlying60 (hu _) (by simp only [zIa, zMa, zTb, zKa, zUa, List.length_drop]; omega) ?_
               | refine app_sl Tryz.underlying60 (by simp [AV.cells]) (by simp only [zIa, zMa, zTb, zKa, zUa, List.length_drop]; omega) ?_
           · rintro s4 h4 rfl
             simp -dsimp only [Vm.E, zA, zB, zC, zD, zE, zG, zH, Tryz.results151]
             exact hq
         · rw [hb4] at e57
           obtain ⟨hlt, heq⟩ := sameAt_true hb4
           have hset := tput_set k v l i hlt (fun j hj => hb j _ hj) heq
           simp -dsimp only [Vm.G, zA, zB, zC, zD, zE, zF, fo74_0, hh, of60, es60, as60, Tryz.underlying123, cs123, fo132_0, fo132_1, of123, AV.cells, Tryz.underlying60, e57, f0, f1, f6, f7, append_nil ei60]
           refine app_sl Tryz.underlying60 (fun c hc => by obtain ⟨y, -, rfl⟩ := zOb.1 hc; rfl) (by simp only [zIa, zMa]; omega) ?_
           simp -dsimp only [Vm.G, zA, zB, zC, zD, zE, zF, fo74_0, hh, of60, es60, as60, Tryz.underlying123, cs123, fo132_0, fo132_1, of123, AV.cells, Tryz.underlying60, e57, f0, f1, f6, f7, zRb, of132]
           refine idxO_intro (by omega) (by simp; omega) ?_
           simp -dsimp only [Vm.G, zA, zB, zC, zD, zE, zF, fo74_0, hh, of60, es60, as60, Tryz.underlying123, cs123, fo132_0, fo132_1, of123, AV.cells, Tryz.underlying60, e57, f0, f1, f6, f7, of132, sz132, zNa]
           have hre : (l.map kvAv).set i (.agg [.sl 1 (k.map encB), .sl 1 (v.map encB)]) = (tput k v l).map kvAv := by rw [hset, List.map_set]; rfl
           refine store_elt 132 (l.map kvAv) (by simp -dsimp only [Vm.E, zA, zB, zC, zD, zE, zG, zH]) (y := kvAv l[i]) (by rw [List.getElem?_map, zKb hlt]; rfl) rfl rfl (by omega) rfl ?_
           simp only [kvAv, AV.cells, putCells, reCell, List.take_zero, zRb, zKa, zMa, Nat.zero_add, Nat.reduceAdd, List.drop_succ_cons, zSb, zLa, List.drop_nil]
           simp -dsimp only [Vm.G, zA, zB, zC, zD, zE, zF, fo74_0, hh, of60, es60, as60, AV.cells, Tryz.underlying60, f0, f1, f6, f7, hre, sz60, Tryz.results151]
           exact hq
     · rw [hb2] at e34
       obtain ⟨hlt, hk⟩ := lessAt_true hb2
       simp -dsimp only [Vm.E, zA, zB, zC, zD, zE, zG, zH, e34, e0, e1, e6, e7]
       refine kept_intro ⟨l.length - (i + 1), by omega, _, le_mk [(0, .ptr id 0), (1, .sl 1 (k.map encB)), (6, .box [.sl 1 (k.map encB), .sl 1 (v.map encB)]), (7, .v (.int .i64 (i + 1 : Nat)))] ?_, i + 1, by omega, rfl, fun j hj hj2 => ?_, rfl⟩
       · simp only [Vm.D]
         simp -dsimp only [Vm.E, zA, zB, zC, zD, zE, zG, zH, e0, e1, e6, e7, hw hlt]
         exact ⟨.refl _, .refl _, .refl _, .refl _⟩
       · by_cases hji : j = i
         · subst hji; exact hk
         · exact hb j hj (by omega)
end Go.Proofs.Lx
namespace Go.Proofs.Lx
open Go.Vm
attribute [local irreducible] awpArr awpBin awpMake awpAppend awpCvX awpStrOf awpBinX awpSlice awpBS awpStore awpAlloc awpCopy awpIndex awpDraw awpIdxX awpFa awpField awpLookup awpUpdate awpDelete awpClear awpRange awpNext awpEntry awpBuild awpClearS awpIdxL
theorem does_rPack : Does Tryz.prog 143 packSpec := by
 refine dA (good_cons does_refPut good_nil) Tryz.func143 rfl (by decide +kernel) ?_
 rintro args h Q ⟨l, hl, hn, rfl, hq⟩
 refine ⟨by simp [Tryz.f143], ?_⟩
 simp -dsimp only [Vm.E, zA, zB, zC, zD, zE, zG, zH]
 refine awp_loop (fun m s h' => ∃ i : Nat, i + m = (l.take 15).length ∧ h' = h ∧ s = mk [(0, .sl 1 (l.map encI)), (3, .own true 5 1 ((packs 8 (l.take i)).map encB)), (4, .v (.int .i64 i))])
   (l.take 15).length _ (le_mk _ ?_) ⟨0, by omega, rfl, rfl⟩ ?_
 · simp only [Vm.D]
   simp -dsimp only [Vm.E, zA, zB, zC, zD, zE, zG, zH]
   exact ⟨.refl _, .nil _ _ _ (by decide), .refl _⟩
 · rintro m s h' ⟨i, hi, rfl, rfl⟩
   have hlen : (l.take 15).length = min 15 l.length := zUa ..
   simp -dsimp only [Vm.E, zA, zB, zC, zD, zE, zG, zH, Tryz.underlying120]
   by_cases a1 : i < l.length
   · have c1 : decide ((i : Int) < l.length) = true := decide_eq_true (by omega)
     simp -dsimp only [Vm.E, zA, zB, zC, zD, zE, zG, zH, c1]
     by_cases a2 : i < 15
     · have c2 : decide ((i : Int) < 15) = true := decide_eq_true (by omega)
       simp -dsimp only [Vm.E, zA, zB, zC, zD, zE, zG, zH, c2, es120, as120]
       refine idx_ints l i a1 ?_
       simp -dsimp only [Vm.E, zA, zB, zC, zD, zE, zG, zH, of3]
       have hb := packs_length 8 (l.take i)
       have hti : (l.take i).length ≤ i := by rw [zUa]; omega
       have hr := hn l[i] (zJb a1)
       have hw := hwN i (by omega)
       refine call_one (S := putSpec) rfl _ GaL.rfl ⟨packs 8 (l.take i), l[i], 8, by omega, hr.1, hr.2, rfl, ?_⟩
       simp only [putOf8, ← packs_take 8 l i a1]
       simp -dsimp only [Vm.E, zA, zB, zC, zD, zE, zG, zH]
       refine kept_intro ⟨(l.take 15).length - (i + 1), by omega, _, le_mk [(0, .sl 1 (l.map encI)), (3, .own true 5 1 ((packs 8 (l.take (i + 1))).map encB)), (4, .v (.int .i64 (i + 1 : Nat)))] ?_, i + 1, by omega, rfl, rfl⟩
       simp only [Vm.D]
       simp -dsimp only [Vm.E, zA, zB, zC, zD, zE, zG, zH, hw]
       exact ⟨.refl _, .refl _, .refl _⟩
     · have c2 : decide ((i : Int) < 15) = false := decide_eq_false (by omega)
       simp -dsimp only [Vm.E, zA, zB, zC, zD, zE, zG, zH, c2, Tryz.results143]
       have : i = 15 := by omega
       subst this
       exact hq
   · have c1 : decide ((i : Int) < l.length) = false := decide_eq_false (by omega)
     simp -dsimp only [Vm.E, zA, zB, zC, zD, zE, zG, zH, c1, Tryz.results143]
     unfold packOf at hq
     rw [zJa (by omega)] at hq
     rw [zJa (by omega)]
     exact hq
theorem does_rKey : Does Tryz.prog 75 keySpec := by
 refine dA (good_cons does_refPut good_nil) Tryz.func75 rfl (by decide +kernel) ?_
 rintro args h Q ⟨tag, l, hl, rfl, hq⟩
 refine ⟨by simp [Tryz.f75], ?_⟩
 simp -dsimp only [Vm.E, zA, zB, zC, zD, zE, zG, zH, es123]
 refine bs_intro zr5 (by decide) (by decide) rfl rfl (by simp [solid, AV.cells]) ?_
 simp -dsimp only [Vm.E, zA, zB, zC, zD, zE, zG, zH]
 refine awp_loop (fun m s h' => ∃ i : Nat, i + m = (l.take 7).length ∧ h' = h ∧ s = mk [(1, .sl 1 (l.map encI)), (5, .own true 5 1 ((tag :: packs 4 ((l.map clampK).take i)).map encB)), (6, .v (.int .i64 i))])
   (l.take 7).length _ (le_mk _ ?_) ⟨0, by omega, rfl, rfl⟩ ?_
 · simp only [Vm.D]
   simp -dsimp only [Vm.E, zA, zB, zC, zD, zE, zG, zH]
   exact ⟨.refl _, .refl _, .refl _⟩
 · rintro m s h' ⟨i, hi, rfl, rfl⟩
   have hlen : (l.take 7).length = min 7 l.length := zUa ..
   simp -dsimp only [Vm.E, zA, zB, zC, zD, zE, zG, zH, Tryz.underlying120]
   by_cases a1 : i < l.length
   · have c1 : decide ((i : Int) < l.length) = true := decide_eq_true (by omega)
     simp -dsimp only [Vm.E, zA, zB, zC, zD, zE, zG, zH, c1]
     by_cases a2 : i < 7
     · have c2 : decide ((i : Int) < 7) = true := decide_eq_true (by omega)
       simp -dsimp only [Vm.E, zA, zB, zC, zD, zE, zG, zH, c2, es120, as120]
       refine idx_ints l i a1 ?_
       simp -dsimp only [Vm.E, zA, zB, zC, zD, zE, zG, zH, of3]
       have hlt' : i < (l.map clampK).length := by simpa using a1
       have hb := packs_length 4 ((l.map clampK).take i)
       have hti : ((l.map clampK).take i).length ≤ i := by rw [zUa]; omega
       have hr := clampK_range l[i]
       have hget : (l.map clampK)[i] = clampK l[i] := by simp
       have hw := hwN i (by omega)
       refine call_one (S := putSpec) rfl _ GaL.rfl ⟨tag :: packs 4 ((l.map clampK).take i), clampK l[i], 4, by simp only [zKa]; omega, by omega, by omega, rfl, ?_⟩
       have hput : putOf (tag :: packs 4 ((l.map clampK).take i)) (clampK l[i]) 4 = tag :: packs 4 ((l.map clampK).take (i + 1)) := by
         rw [putOf4 _ _ hr.1 hr.2, List.cons_append, ← hget, ← packs_take 4 (l.map clampK) i hlt']
       simp only [hput]
       simp -dsimp only [Vm.E, zA, zB, zC, zD, zE, zG, zH]
       refine kept_intro ⟨(l.take 7).length - (i + 1), by omega, _, le_mk [(1, .sl 1 (l.map encI)), (5, .own true 5 1 ((tag :: packs 4 ((l.map clampK).take (i + 1))).map encB)), (6, .v (.int .i64 (i + 1 : Nat)))] ?_, i + 1, by omega, rfl, rfl⟩
       simp only [Vm.D]
       simp -dsimp only [Vm.E, zA, zB, zC, zD, zE, zG, zH, hw]
       exact ⟨.refl _, .refl _, .refl _⟩
     · have c2 : decide ((i : Int) < 7) = false := decide_eq_false (by omega)
       simp -dsimp only [Vm.E, zA, zB, zC, zD, zE, zG, zH, c2, Tryz.results75]
       have : i = 7 := by omega
       subst this
       unfold keyOf at hq
       rw [List.map_take] at hq
       exact hq
   · have c1 : decide ((i : Int) < l.length) = false := decide_eq_false (by omega)
     simp -dsimp only [Vm.E, zA, zB, zC, zD, zE, zG, zH, c1, Tryz.results75]
     unfold keyOf at hq
     rw [List.map_take, zJa (by simp; omega)] at hq
     rw [zJa (l := l.map clampK) (by simp; omega)]
     exact hq
theorem does_rUnpack : Does Tryz.prog 199 unpackSpec := by
 refine dA (good_cons does_refGet good_nil) Tryz.func199 rfl (by decide +kernel) ?_
 rintro args h Q ⟨b, many, hl, hm, rfl, hq⟩
 refine ⟨by simp [Tryz.f199], ?_⟩
 unfold unpackRes at hq
 simp -dsimp only [Vm.E, zA, zB, zC, zD, zE, zG, zH]
 cases h0 : decide (many < 0)
 · have h0' : ¬ many < 0 := of_decide_eq_false h0
   simp -dsimp only [Vm.E, zA, zB, zC, zD, zE, zG, zH]
   cases h1 : decide (many > 15)
   · have h1' : ¬ 15 < many := of_decide_eq_false h1
     rw [if_neg (by omega)] at hq
     have hw8 : IntKind.i64.wrap (8 * many) = 8 * many := wrap_i64 (by omega) (by omega)
     simp -dsimp only [Vm.E, zA, zB, zC, zD, zE, zG, zH, Tryz.underlying123, hw8]
     cases h2 : ((b.length : Int) != 8 * many)
     · have h2' : (b.length : Int) = 8 * many := by simpa using h2
       rw [if_neg (by omega)] at hq
       obtain ⟨k, rfl⟩ : ∃ k : Nat, many = k := ⟨many.toNat, by omega⟩
       rw [zNa] at hq
       have hk : k ≤ 15 := by omega
       simp -dsimp only [Vm.E, zA, zB, zC, zD, zE, zG, zH]
       refine awp_loop (fun m s h' => ∃ i : Nat, i + m = k ∧ h' = h ∧ s = mk [(0, .sl 1 (b.map encB)), (1, .v (.int .i64 k)), (6, .own true 3 1 ((numsOf b i).map encI)), (7, .v (.int .i64 i))])
         k _ (le_mk _ ?_) ⟨0, by omega, rfl, rfl⟩ ?_
       · simp only [Vm.D]
         simp -dsimp only [Vm.E, zA, zB, zC, zD, zE, zG, zH]
         exact ⟨.refl _, .refl _, .nil _ _ _ (by decide), .refl _⟩
       · rintro m s h' ⟨i, hi, rfl, rfl⟩
         simp -dsimp only [Vm.E, zA, zB, zC, zD, zE, zG, zH]
         refine cond_intro (fun hc => ?_) (fun hc => ?_)
         · have hlt : i < k := by have := of_decide_eq_true hc; omega
           have hwi : IntKind.i64.wrap (8 * (i : Int)) = ((8 * i : Nat) : Int) := by rw [wrap_i64 (by omega) (by omega)]; simp
           have hw := hwN i (by omega)
           simp -dsimp only [Vm.E, zA, zB, zC, zD, zE, zG, zH, hwi]
           refine call_one (S := getSpec) rfl _ GaL.rfl ⟨b, ((8 * i : Nat) : Int), 8, by omega, by omega, rfl, ?_⟩
           simp only [getRes8 b i (by omega)]
           simp -dsimp only [Vm.E, zA, zB, zC, zD, zE, zG, zH, es120]
           refine bs_intro zr3 (by decide) (by decide) rfl rfl (by simp [solid, AV.cells]) ?_
           simp -dsimp only [Vm.E, zA, zB, zC, zD, zE, zG, zH, append_own ei120]
           refine app_sl Tryz.underlying120 (by simp [AV.cells]) (by simp [numsOf]; omega) ?_
           simp -dsimp only [Vm.E, zA, zB, zC, zD, zE, zG, zH]
           have e3 : (numsOf b i).map encI ++ [AV.v (.int .i64 (num8 b i))] = (numsOf b (i + 1)).map encI := by simp [numsOf, List.range_succ, encI]
           refine kept_intro ⟨k - (i + 1), by omega, _, le_mk [(0, .sl 1 (b.map encB)), (1, .v (.int .i64 k)), (6, .own true 3 1 ((numsOf b (i + 1)).map encI)), (7, .v (.int .i64 (i + 1 : Nat)))] ?_, i + 1, by omega, rfl, rfl⟩
           simp only [Vm.D]
           simp -dsimp only [Vm.E, zA, zB, zC, zD, zE, zG, zH, hw, e3]
           exact ⟨.refl _, .refl _, .refl _, .refl _⟩
         · have hge : ¬ i < k := by have := of_decide_eq_false hc; omega
           simp -dsimp only [Vm.E, zA, zB, zC, zD, zE, zG, zH, Tryz.results199]
           obtain rfl : i = k := by omega
           exact hq
     · have h2' : ¬ (b.length : Int) = 8 * many := by simpa using h2
       rw [if_pos h2'] at hq
       simp -dsimp only [Vm.E, zA, zB, zC, zD, zE, zG, zH, Tryz.results199]
       exact hq
   · have h1' : 15 < many := of_decide_eq_true h1
     rw [if_pos (.inr h1')] at hq
     simp -dsimp only [Vm.E, zA, zB, zC, zD, zE, zG, zH, Tryz.results199]
     exact hq
 · have h0' : many < 0 := of_decide_eq_true h0
   rw [if_pos (.inl h0')] at hq
   simp -dsimp only [Vm.E, zA, zB, zC, zD, zE, zG, zH, Tryz.results199]
   exact hq
def GaO (x y : AObj) : Prop := x = y ∨ ∃ a b, x = .cells a ∧ y = .cells b ∧ GaL a b
def GaH (h h' : Heap) : Prop := h.length = h'.length ∧ ∀ (i : Nat) (o' : AObj), h'[i]? = some o' → ∃ o : AObj, h[i]? = some o ∧ GaO o o'
theorem GaH.rep {w : World} {g : Gh} {h h' : Heap} (hg : GaH h h') (hh : HeapRep w g h) : HeapRep w g h' := by
 refine ⟨hg.1 ▸ hh.n, hh.lt, hh.inj, fun i o' ho' => ?_⟩
 obtain ⟨o, ho, hgo⟩ := hg.2 i o' ho'
 have hr := hh.obj i o ho
 rcases hgo with rfl | ⟨a, b, rfl, rfl, hab⟩
 · exact hr
 · obtain ⟨vs, e, h1, h2, h3, h4, h5⟩ := hr
   obtain ⟨q1, q2⟩ := gaL_rep (w := w) (g := g) hab
   exact ⟨vs, e, h1, q1 ▸ h2, h3, fun j hj => h4 j (by omega), q2 (fun j => vs.getD j undef) h5⟩
def WeakH (S : Vm.Spec) : Vm.Spec := fun args h Q => ∃ h', GaH h h' ∧ S args h' fun r h2 => ∃ h3, GaH h2 h3 ∧ Q r h3
theorem does_weakH {P : Program} {f : FuncId} {S : Vm.Spec} (hd : Does P f S) : Does P f (WeakH S) := by
 refine ⟨hd.1, fun args h Q ⟨h', hg, hS⟩ w g vs hvs hrep hh hf hlaid => (hd.2 args h' _ hS w g vs hvs hrep (hg.rep hh) hf hlaid).mono ?_⟩
 rintro e w' ⟨r, h2, g', v, ⟨h3, hg3, hq⟩, he, hres, hhr, hrest⟩
 exact ⟨r, h3, g', v, hq, he, hres, hg3.rep hhr, hrest⟩
theorem GaH.refl (h : Heap) : GaH h h := ⟨rfl, fun i o ho => ⟨o, ho, .inl rfl⟩⟩
theorem GaH.append {h : Heap} {a b : List AObj} (hab : a.length = b.length) (hi : ∀ (i : Nat) (o' : AObj), b[i]? = some o' → ∃ o, a[i]? = some o ∧ GaO o o') : GaH (h ++ a) (h ++ b) := by
 refine ⟨by simp [hab], fun i o' ho' => ?_⟩
 rcases Nat.lt_or_ge i h.length with hl | hl
 · rw [List.getElem?_append_left hl] at ho' ⊢
   exact ⟨o', ho', .inl rfl⟩
 · rw [zWa hl] at ho' ⊢
   exact hi _ _ ho'
structure RId where
 iv : Nat
 iw : Nat
 inn : Nat
 it : Nat
def isRef (h : Heap) (R : RId) (f : Fun) : Prop :=
 ∃ lw ln lt : List KV, h[R.iv]? = some (.cells [.ptr R.iw 0, .ptr R.inn 0, .ptr R.it 0]) ∧ h[R.iw]? = some (tabObj lw) ∧ h[R.inn]? = some (tabObj ln) ∧ h[R.it]? = some (tabObj lt) ∧
   (R.iv ≠ R.inn ∧ R.iv ≠ R.it ∧ R.inn ≠ R.it ∧ R.iw ≠ R.inn ∧ R.iw ≠ R.it) ∧ TabIs f ln ∧ (ln.length ≤ f.n ∧ lt.length ≤ f.n) ∧ ∀ p ∈ ln, p.1.length ≤ 32 ∧ p.2.length ≤ 120
def rFoot (R : RId) : List Nat := [R.inn, R.it]
theorem isRef.len {h : Heap} {R : RId} {f : Fun} (hR : isRef h R f) {k l : List UInt8} (hf : f k = some l) : k.length ≤ 32 ∧ l.length ≤ 120 := by
 obtain ⟨lw, ln, lt, -, -, -, -, -, h6, -, h8⟩ := hR
 exact h8 (k, l) ((h6.2 k l).2 hf)
def rNewH (h : Heap) : Heap := h ++ [tabObj [], tabObj [], tabObj [], .cells [.ptr h.length 0, .ptr (h.length + 1) 0, .ptr (h.length + 2) 0]]
def rNewId (h : Heap) : RId := ⟨h.length + 3, h.length, h.length + 1, h.length + 2⟩
def rNewSpec : Vm.Spec := fun args h Q => args = [.sl 2 []] ∧ Q (.ptr (rNewId h).iv 0) (rNewH h)
theorem does_rNew0 : Does Tryz.prog 21 (fun args h Q => args = [.sl 2 []] ∧ Q (.ptr (h.length + 3) 0) (h ++ [tabObj [], tabObj [], .cells [.v (.slice none 0 0)], .cells [.ptr h.length 0, .ptr (h.length + 1) 0, .ptr (h.length + 2) 0]])) := by
 refine dA good_nil Tryz.func21 rfl (by decide +kernel) ?_
 rintro args h Q ⟨rfl, hq⟩
 refine ⟨by simp [Tryz.f21], ?_⟩
 unfold tabObj at hq
 simp -dsimp only [Vm.G, zA, zB, zC, zD, zE, zF, bd74, bd76, Tryz.results21]
 simpa using hq
theorem does_rNew : Does Tryz.prog 21 rNewSpec := by
 refine (does_weakH does_rNew0).imp ?_
 rintro args h Q ⟨rfl, hq⟩
 refine ⟨h, .refl h, rfl, rNewH h, ?_, hq⟩
 refine GaH.append rfl fun i o' ho' => ?_
 match i, ho' with
 | 0, ho' => exact ⟨o', ho', .inl rfl⟩
 | 1, ho' => exact ⟨o', ho', .inl rfl⟩
 | 2, ho' => exact ⟨_, rfl, .inr ⟨_, _, rfl, (Option.some.inj ho').symm, .cons (.nil 2) .nil⟩⟩
 | 3, ho' => exact ⟨o', ho', .inl rfl⟩
 | i + 4, ho' => simp at ho'
theorem isRef_new (h : Heap) : isRef (rNewH h) (rNewId h) noF := by
 unfold rNewH rNewId
 refine ⟨[], [], [], ?_, ?_, ?_, ?_, ⟨by simp, by simp, by simp, by simp, by simp⟩, TabIs.new, ⟨by simp, by simp⟩, by simp⟩
 · rw [zWa (by simp)]; simp
 · rw [zWa (by simp)]; simp
 · rw [zWa (by simp)]; simp
 · rw [zWa (by simp)]; simp
def rGetSpec : Vm.Spec := fun args h Q => ∃ (R : RId) (f : Fun) (k : List UInt8), args = [.ptr R.iv 0, .sl 1 (k.map encB)] ∧ isRef h R f ∧ f.n ≤ 536870912 ∧
 (∀ l, f k = some l → Q (.tup [.sl 1 (l.map encB), .v (.bool true)]) h) ∧ (f k = none → Q (.tup [.sl 1 [], .v (.bool false)]) h)
theorem does_rGet : Does Tryz.prog 149 rGetSpec := by
 refine Does.imp (S := Weak fun args h Q => ∃ (R : RId) (f : Fun) (k : List UInt8), args = [.ptr R.iv 0, .sl 1 (k.map encB)] ∧ isRef h R f ∧ f.n ≤ 536870912 ∧
   (∀ l, f k = some l → Q (.tup [.sl 1 (l.map encB), .v (.bool true)]) h) ∧ (f k = none → Q (.tup [.v (.slice none 0 0), .v (.bool false)]) h)) (Does.weak ?_) ?_
 · refine dA (good_cons does_tGet good_nil) Tryz.func149 rfl (by decide +kernel) ?_
   rintro args h Q ⟨R, f, k, rfl, hR, hn, hq1, hq2⟩
   refine ⟨by simp [Tryz.f149], ?_⟩
   obtain ⟨lw, ln, lt, h1, h2, h3, h4, h5, h6, h7, h8⟩ := hR
   simp -dsimp only [Vm.G, zA, zB, zC, zD, zE, zF, fo76_1, h1, of72]
   refine call_one (S := tGetSpec) rfl _ GaL.rfl ⟨R.inn, ln, k, rfl, h3, by omega, fun p hp => by have := (h8 p hp).2; omega, fun v hv => ?_, fun hv => ?_⟩
   · rw [h6.find] at hv
     simp -dsimp only [Vm.E, zA, zB, zC, zD, zE, zG, zH, Tryz.results149]
     exact hq1 v hv
   · rw [h6.find] at hv
     simp -dsimp only [Vm.E, zA, zB, zC, zD, zE, zG, zH, Tryz.results149]
     exact hq2 hv
 · rintro args h Q ⟨R, f, k, rfl, hR, hn, hq1, hq2⟩
   exact ⟨R, f, k, rfl, hR, hn, fun l hf => ⟨_, .refl _, hq1 l hf⟩, fun hf => ⟨_, .tup (.cons (.nil 1) GaL.rfl), hq2 hf⟩⟩
def rPutSpec : Vm.Spec := fun args h Q => ∃ (R : RId) (f : Fun) (k v : List UInt8), args = [.ptr R.iv 0, .sl 1 (k.map encB), .sl 1 (v.map encB)] ∧ isRef h R f ∧ f.n ≤ 536870912 ∧
 (rightKV k v = true → ∀ h', isRef h' R (upd f k (some v)) → Same h h' (rFoot R) → Q (.v (.int .i64 0)) h') ∧ (rightKV k v = false → Q (.v (.int .i64 1)) h)
theorem does_rPut : Does Tryz.prog 74 rPutSpec := by
 refine dA (good_cons does_rRight (good_cons does_tPut good_nil)) Tryz.func74 rfl (by decide +kernel) ?_
 rintro args h Q ⟨R, f, k, v, rfl, hR, hn, hq1, hq2⟩
 refine ⟨by simp [Tryz.f74], ?_⟩
 obtain ⟨lw, ln, lt, h1, h2, h3, h4, h5, h6, h7, h8⟩ := hR
 simp -dsimp only [Vm.G, zA, zB, zC, zD, zE, zF]
 refine call_one (S := rRightSpec) rfl _ GaL.rfl ⟨k, v, rfl, ?_⟩
 cases hr : rightKV k v
 · simp -dsimp only [Vm.E, zA, zB, zC, zD, zE, zG, zH, Tryz.results74]
   exact hq2 hr
 · have hrk : k.length ≤ 32 ∧ v.length ≤ 120 := by unfold rightKV at hr; simp at hr; omega
   simp -dsimp only [Vm.G, zA, zB, zC, zD, zE, zF, fo76_2, h1, of72]
   refine call_one (S := tPutSpec) rfl _ (.cons (.refl _) (.cons (.refl _) (.cons (.nil 1) .nil))) ⟨R.it, lt, k, [], rfl, h4, by omega, by omega, by simp, ?_⟩
   have hi : ∀ {i : Nat} {o : AObj} {h : Heap}, h[i]? = some o → i < h.length := fun {i o h} hx => by
     rcases Nat.lt_or_ge i h.length with h' | h'
     · exact h'
     · rw [zMb h'] at hx; cases hx
   have g1 : (h.set R.it (tabObj (tput k [] lt)))[R.iv]? = some (.cells [.ptr R.iw 0, .ptr R.inn 0, .ptr R.it 0]) := by rw [zYa (by exact fun e => h5.2.1 e.symm)]; exact h1
   have g3 : (h.set R.it (tabObj (tput k [] lt)))[R.inn]? = some (tabObj ln) := by rw [zYa (by exact fun e => h5.2.2.1 e.symm)]; exact h3
   have g2 : (h.set R.it (tabObj (tput k [] lt)))[R.iw]? = some (tabObj lw) := by rw [zYa (by exact fun e => h5.2.2.2.2 e.symm)]; exact h2
   have g4 : (h.set R.it (tabObj (tput k [] lt)))[R.it]? = some (tabObj (tput k [] lt)) := List.getElem?_set_self (hi h4)
   have gs : Same h (h.set R.it (tabObj (tput k [] lt))) (rFoot R) := ⟨by simp, fun i hl hi => zYa (by simp [rFoot] at hi; exact fun e => hi.2 e.symm)⟩
   generalize h.set R.it (tabObj (tput k [] lt)) = h2' at g1 g2 g3 g4 gs ⊢
   simp -dsimp only [Vm.G, zA, zB, zC, zD, zE, zF, fo76_1, g1, of72]
   refine call_one (S := tPutSpec) rfl _ GaL.rfl ⟨R.inn, ln, k, v, rfl, g3, by omega, by omega, by omega, ?_⟩
   simp -dsimp only [Vm.E, zA, zB, zC, zD, zE, zG, zH, Tryz.results74]
   refine hq1 hr _ ⟨lw, tput k v ln, tput k [] lt, ?_, ?_, ?_, ?_, h5, h6.put k v, ⟨?_, ?_⟩, fun p hp => ?_⟩ ?_
   · rw [zYa (by exact fun e => h5.1 e.symm)]; exact g1
   · rw [zYa (by exact fun e => h5.2.2.2.1 e.symm)]; exact g2
   · exact List.getElem?_set_self (hi g3)
   · rw [zYa h5.2.2.1]; exact g4
   · have := tput_length k v ln; show _ ≤ f.n + 1; omega
   · have := tput_length k [] lt; show _ ≤ f.n + 1; omega
   · rcases tput_mem1 hp with rfl | hp
     · exact hrk
     · exact h8 p hp
   · exact ⟨by rw [List.length_set]; exact gs.1, fun i hl hi => by
       rw [zYa (by simp [rFoot] at hi; exact fun e => hi.1 e.symm)]; exact gs.2 i hl hi⟩
def rSetSpec : Vm.Spec := fun args h Q => ∃ (R : RId) (f : Fun) (p : KV), args = [.ptr R.iv 0, kvAv p] ∧ isRef h R f ∧ f.n ≤ 536870912 ∧
 ∀ h', isRef h' R (if rightKV p.1 p.2 then upd f p.1 (some p.2) else f) → Same h h' (rFoot R) → Q (.tup []) h'
theorem does_rSet : Does Tryz.prog 181 rSetSpec := by
 refine dA (good_cons does_rPut good_nil) Tryz.func181 rfl (by decide +kernel) ?_
 rintro args h Q ⟨R, f, ⟨k, v⟩, rfl, hR, hn, hq⟩
 refine ⟨by simp [Tryz.f181], ?_⟩
 simp only [kvAv]
 simp -dsimp only [Vm.G, zA, zB, zC, zD, zE, zF, fo132_0, fo132_1, of123]
 refine call_one (S := rPutSpec) rfl _ GaL.rfl ⟨R, f, k, v, rfl, hR, hn, fun hr h' g1 g2 => ?_, fun hr => ?_⟩
 · simp -dsimp only [Vm.E, zA, zB, zC, zD, zE, zG, zH, Tryz.results181]
   exact hq h' (by simp only [hr, if_true]; exact g1) g2
 · simp -dsimp only [Vm.E, zA, zB, zC, zD, zE, zG, zH, Tryz.results181]
   exact hq h (by simp only [hr]; exact hR) (.refl _ _)
def rNumSpec : Vm.Spec := fun args h Q => ∃ (R : RId) (f : Fun) (k : List UInt8), args = [.ptr R.iv 0, .sl 1 (k.map encB)] ∧ isRef h R f ∧ f.n ≤ 536870912 ∧ ∀ b, Q (.tup [.v (.int .i64 (readOf f k)), .v (.bool b)]) h
theorem does_rNum : Does Tryz.prog 142 rNumSpec := by
 refine dA (good_cons does_rGet (good_cons does_rUnpack good_nil)) Tryz.func142 rfl (by decide +kernel) ?_
 rintro args h Q ⟨R, f, k, rfl, hR, hn, hq⟩
 refine ⟨by simp [Tryz.f142], ?_⟩
 unfold readOf at hq
 have hlen := fun l hf => (hR.len (k := k) (l := l) hf).2
 simp -dsimp only [Vm.E, zA, zB, zC, zD, zE, zG, zH]
 refine call_one (S := rGetSpec) rfl _ GaL.rfl ⟨R, f, k, rfl, hR, hn, fun l hf => ?_, fun hf => ?_⟩
 · have hl := hlen l hf
   rw [hf] at hq
   have hq : ∀ b, Q (.tup [.v (.int .i64 (if l.length = 8 then num8 l 0 else 0)), .v (.bool b)]) h := hq
   simp -dsimp only [Vm.E, zA, zB, zC, zD, zE, zG, zH]
   refine call_one (S := unpackSpec) rfl _ GaL.rfl ⟨l, 1, by omega, by unfold I64; omega, rfl, ?_⟩
   unfold unpackRes
   by_cases h8 : l.length = 8
   · rw [if_pos h8] at hq
     rw [if_neg (by omega), if_neg (by simp [h8])]
     have e0 : (numsOf l 1)[0]'(by simp [numsOf]) = num8 l 0 := by simp [numsOf]
     simp -dsimp only [Vm.E, zA, zB, zC, zD, zE, zG, zH, bne_self_eq_false, es120, as120]
     refine idx_ints (numsOf l 1) 0 (by simp [numsOf]) ?_
     simp -dsimp only [Vm.E, zA, zB, zC, zD, zE, zG, zH, of3, e0, Tryz.results142]
     exact hq true
   · rw [if_neg h8] at hq
     rw [if_neg (by omega), if_pos (by omega)]
     simp -dsimp only [Vm.E, zA, zB, zC, zD, zE, zG, zH, Tryz.results142]
     exact hq false
 · rw [hf] at hq
   simp -dsimp only [Vm.E, zA, zB, zC, zD, zE, zG, zH]
   refine call_one (S := unpackSpec) rfl _ GaL.rfl ⟨[], 1, by simp, by unfold I64; omega, rfl, ?_⟩
   unfold unpackRes
   rw [if_neg (by omega), if_pos (by simp)]
   simp -dsimp only [Vm.E, zA, zB, zC, zD, zE, zG, zH, Tryz.results142]
   exact hq false
def rLastSpec : Vm.Spec := fun args h Q => ∃ (R : RId) (f : Fun) (which : Int), args = [.ptr R.iv 0, .v (.int .i64 which)] ∧ isRef h R f ∧ f.n ≤ 536870912 ∧ Q (.v (.int .i64 (readOf f (seqKey which)))) h
theorem does_rLast : Does Tryz.prog 232 rLastSpec := by
 refine dA (good_cons does_rKey (good_cons does_rNum good_nil)) Tryz.func232 rfl (by decide +kernel) ?_
 rintro args h Q ⟨R, f, which, rfl, hR, hn, hq⟩
 refine ⟨by simp [Tryz.f232], ?_⟩
 simp -dsimp only [Vm.E, zA, zB, zC, zD, zE, zG, zH, es120]
 refine bs_intro zr3 (by decide) (by decide) rfl rfl (by simp [solid, AV.cells]) ?_
 simp -dsimp only [Vm.E, zA, zB, zC, zD, zE, zG, zH]
 refine call_one (S := keySpec) rfl _ GaL.rfl ⟨83, [which], by simp, rfl, ?_⟩
 simp -dsimp only [Vm.E, zA, zB, zC, zD, zE, zG, zH]
 refine call_one (S := rNumSpec) rfl _ GaL.rfl ⟨R, f, seqKey which, rfl, hR, hn, fun b => ?_⟩
 simp -dsimp only [Vm.E, zA, zB, zC, zD, zE, zG, zH, Tryz.results232]
 exact hq
def rNextSpec : Vm.Spec := fun args h Q => ∃ (R : RId) (f : Fun) (which : Int), args = [.ptr R.iv 0, .v (.int .i64 which)] ∧ isRef h R f ∧ f.n ≤ 536870912 ∧
 (readOf f (seqKey which) < 0 ∨ 4294967294 < readOf f (seqKey which) → Q (.tup [.v (.int .i64 0), .v (.int .i64 9)]) h) ∧
 (¬ (readOf f (seqKey which) < 0 ∨ 4294967294 < readOf f (seqKey which)) → ∀ h', isRef h' R (upd f (seqKey which) (some (be 8 (readOf f (seqKey which) + 1)))) → Same h h' (rFoot R) →
   Q (.tup [.v (.int .i64 (readOf f (seqKey which) + 1)), .v (.int .i64 0)]) h')
theorem does_rNext : Does Tryz.prog 188 rNextSpec := by
 refine dA (good_cons does_rLast (good_cons does_rKey (good_cons does_rPack (good_cons does_rPut good_nil)))) Tryz.func188 rfl (by decide +kernel) ?_
 rintro args h Q ⟨R, f, which, rfl, hR, hn, hq1, hq2⟩
 refine ⟨by simp [Tryz.f188], ?_⟩
 have hr := readOf_range f (seqKey which)
 simp -dsimp only [Vm.E, zA, zB, zC, zD, zE, zG, zH]
 refine call_one (S := rLastSpec) rfl _ GaL.rfl ⟨R, f, which, rfl, hR, hn, ?_⟩
 generalize readOf f (seqKey which) = n at hr hq1 hq2 ⊢
 unfold I64 at hr
 simp -dsimp only [Vm.E, zA, zB, zC, zD, zE, zG, zH]
 cases c1 : decide (n < 0)
 · simp -dsimp only [Vm.E, zA, zB, zC, zD, zE, zG, zH]
   cases c2 : decide (n > 4294967294)
   · have d1 := of_decide_eq_false c1
     have d2 := of_decide_eq_false c2
     have hw : IntKind.i64.wrap (n + 1) = n + 1 := wrap_i64 (by omega) (by omega)
     simp -dsimp only [Vm.E, zA, zB, zC, zD, zE, zG, zH, es120]
     refine bs_intro zr3 (by decide) (by decide) rfl rfl (by simp [solid, AV.cells]) ?_
     simp -dsimp only [Vm.E, zA, zB, zC, zD, zE, zG, zH]
     refine call_one (S := keySpec) rfl _ GaL.rfl ⟨83, [which], by simp, rfl, ?_⟩
     simp -dsimp only [Vm.E, zA, zB, zC, zD, zE, zG, zH, hw, es120]
     refine bs_intro zr3 (by decide) (by decide) rfl rfl (by simp [solid, AV.cells]) ?_
     simp -dsimp only [Vm.E, zA, zB, zC, zD, zE, zG, zH]
     refine call_one (S := packSpec) rfl _ GaL.rfl ⟨[n + 1], by simp, fun m hm => by simp at hm; subst hm; unfold I64; omega, rfl, ?_⟩
     simp only [packOf_one]
     simp -dsimp only [Vm.E, zA, zB, zC, zD, zE, zG, zH]
     refine call_one (S := rPutSpec) rfl _ GaL.rfl ⟨R, f, seqKey which, be 8 (n + 1), rfl, hR, hn, fun _ h' g1 g2 => ?_, fun hc => by rw [right_seq] at hc; cases hc⟩
     simp -dsimp only [Vm.E, zA, zB, zC, zD, zE, zG, zH, hw, Tryz.results188]
     exact hq2 (by omega) h' g1 g2
   · have d2 := of_decide_eq_true c2
     simp -dsimp only [Vm.E, zA, zB, zC, zD, zE, zG, zH, Tryz.results188]
     exact hq1 (by omega)
 · have d1 := of_decide_eq_true c1
   simp -dsimp only [Vm.E, zA, zB, zC, zD, zE, zG, zH, Tryz.results188]
   exact hq1 (by omega)
def rStateSpec : Vm.Spec := fun args h Q => ∃ (R : RId) (f : Fun) (n : Int), args = [.ptr R.iv 0, .v (.int .i64 n)] ∧ isRef h R f ∧ f.n ≤ 536870912 ∧ Q (.v (.int .i64 (stateOf f n))) h
theorem does_rState : Does Tryz.prog 62 rStateSpec := by
 refine dA (good_cons does_rKey (good_cons does_rNum good_nil)) Tryz.func62 rfl (by decide +kernel) ?_
 rintro args h Q ⟨R, f, n, rfl, hR, hn, hq⟩
 refine ⟨by simp [Tryz.f62], ?_⟩
 unfold stateOf at hq
 simp -dsimp only [Vm.E, zA, zB, zC, zD, zE, zG, zH, es120]
 refine bs_intro zr3 (by decide) (by decide) rfl rfl (by simp [solid, AV.cells]) ?_
 simp -dsimp only [Vm.E, zA, zB, zC, zD, zE, zG, zH]
 refine call_one (S := keySpec) rfl _ GaL.rfl ⟨89, [n], by simp, rfl, ?_⟩
 simp -dsimp only [Vm.E, zA, zB, zC, zD, zE, zG, zH]
 refine call_one (S := rNumSpec) rfl _ GaL.rfl ⟨R, f, yrK n, rfl, hR, hn, fun b => ?_⟩
 generalize readOf f (yrK n) = x at hq ⊢
 simp -dsimp only [Vm.E, zA, zB, zC, zD, zE, zG, zH]
 cases c1 : (x == 1)
 · have d1 : ¬ x = 1 := by simpa using c1
   simp -dsimp only [Vm.E, zA, zB, zC, zD, zE, zG, zH]
   cases c2 : (x == 2)
   · have d2 : ¬ x = 2 := by simpa using c2
     rw [if_neg (by simp [d1, d2])] at hq
     simp -dsimp only [Vm.E, zA, zB, zC, zD, zE, zG, zH, Tryz.results62]
     exact hq
   · have d2 : x = 2 := by simpa using c2
     rw [if_pos (.inr d2)] at hq
     simp -dsimp only [Vm.E, zA, zB, zC, zD, zE, zG, zH, Tryz.results62]
     exact hq
 · have d1 : x = 1 := by simpa using c1
   rw [if_pos (.inl d1)] at hq
   simp -dsimp only [Vm.E, zA, zB, zC, zD, zE, zG, zH, Tryz.results62]
   exact hq
def ySetSpec : Vm.Spec := fun args h Q => ∃ (R : RId) (f : Fun) (n st : Int), args = [.ptr R.iv 0, .v (.int .i64 n), .v (.int .i64 st)] ∧ I64 st ∧ isRef h R f ∧ f.n ≤ 536870912 ∧ ∀ h', isRef h' R (yrTurn f n st) → Same h h' (rFoot R) → Q (.v (.int .i64 0)) h'
theorem does_ySet : Does Tryz.prog 63 ySetSpec := by
 refine dA (good_cons does_rKey (good_cons does_rPack (good_cons does_rPut good_nil))) Tryz.func63 rfl (by decide +kernel) ?_
 rintro args h Q ⟨R, f, n, st, rfl, hst, hR, hn, hq⟩
 refine ⟨by simp [Tryz.f63], ?_⟩
 simp -dsimp only [Vm.E, zA, zB, zC, zD, zE, zG, zH, es120]
 refine bs_intro zr3 (by decide) (by decide) rfl rfl (by simp [solid, AV.cells]) ?_
 simp -dsimp only [Vm.E, zA, zB, zC, zD, zE, zG, zH]
 refine call_one (S := keySpec) rfl _ GaL.rfl ⟨89, [n], by simp, rfl, ?_⟩
 simp -dsimp only [Vm.E, zA, zB, zC, zD, zE, zG, zH, es120]
 refine bs_intro zr3 (by decide) (by decide) rfl rfl (by simp [solid, AV.cells]) ?_
 simp -dsimp only [Vm.E, zA, zB, zC, zD, zE, zG, zH]
 refine call_one (S := packSpec) rfl _ GaL.rfl ⟨[st], by simp, by simpa using hst, rfl, ?_⟩
 simp only [packOf_one]
 simp -dsimp only [Vm.E, zA, zB, zC, zD, zE, zG, zH]
 refine call_one (S := rPutSpec) rfl _ GaL.rfl ⟨R, f, yrK n, be 8 st, rfl, hR, hn, fun _ h' g1 g2 => ?_, fun hc => by rw [right_yr] at hc; cases hc⟩
 simp -dsimp only [Vm.E, zA, zB, zC, zD, zE, zG, zH, Tryz.results63]
 exact hq h' g1 g2
theorem does_rYRight : Does Tryz.prog 61 yrRightSpec := by
 refine dA good_nil Tryz.func61 rfl (by decide +kernel) ?_
 rintro args h Q ⟨n, rfl, hq⟩
 refine ⟨by simp [Tryz.f61], ?_⟩
 unfold rightY at hq
 simp -dsimp only [Vm.E, zA, zB, zC, zD, zE, zG, zH]
 have e : decide (n ≥ 2000) = decide (2000 ≤ n) := rfl
 cases c1 : decide (2000 ≤ n)
 · rw [c1] at hq
   simp -dsimp only [Vm.E, zA, zB, zC, zD, zE, zG, zH, e, c1, Tryz.results61]
   exact hq
 · rw [c1] at hq
   simp -dsimp only [Vm.E, zA, zB, zC, zD, zE, zG, zH, e, c1, Tryz.results61]
   exact hq
def rOpenSpec : Vm.Spec := fun args h Q => ∃ (R : RId) (f : Fun) (n : Int), args = [.ptr R.iv 0, .v (.int .i64 n)] ∧ isRef h R f ∧ f.n ≤ 536870912 ∧ ∀ h', isRef h' R (openOf f n).1 → Same h h' (rFoot R) → Q (.v (.int .i64 (openOf f n).2)) h'
theorem does_rOpen : Does Tryz.prog 23 rOpenSpec := by
 refine dA (good_cons does_rYRight (good_cons does_rState (good_cons does_ySet good_nil))) Tryz.func23 rfl (by decide +kernel) ?_
 rintro args h Q ⟨R, f, n, rfl, hR, hn, hq⟩
 refine ⟨by simp [Tryz.f23], ?_⟩
 unfold openOf at hq
 simp -dsimp only [Vm.E, zA, zB, zC, zD, zE, zG, zH]
 refine call_one (S := yrRightSpec) rfl _ GaL.rfl ⟨n, rfl, ?_⟩
 cases c1 : rightY n
 · rw [c1] at hq
   simp -dsimp only [Vm.E, zA, zB, zC, zD, zE, zG, zH, Tryz.results23]
   exact hq h hR (.refl _ _)
 · rw [c1] at hq
   simp -dsimp only [Vm.E, zA, zB, zC, zD, zE, zG, zH]
   refine call_one (S := rStateSpec) rfl _ GaL.rfl ⟨R, f, n, rfl, hR, hn, ?_⟩
   simp -dsimp only [Vm.E, zA, zB, zC, zD, zE, zG, zH]
   cases c2 : (stateOf f n != 0)
   · have d2 : stateOf f n = 0 := by simpa using c2
     rw [if_pos rfl, if_pos d2] at hq
     simp -dsimp only [Vm.E, zA, zB, zC, zD, zE, zG, zH]
     refine call_one (S := ySetSpec) rfl _ GaL.rfl ⟨R, f, n, 1, rfl, by unfold I64; omega, hR, hn, fun h' g1 g2 => ?_⟩
     simp -dsimp only [Vm.E, zA, zB, zC, zD, zE, zG, zH, Tryz.results23]
     exact hq h' g1 g2
   · have d2 : ¬ stateOf f n = 0 := by simpa using c2
     rw [if_pos rfl, if_neg d2] at hq
     simp -dsimp only [Vm.E, zA, zB, zC, zD, zE, zG, zH, Tryz.results23]
     exact hq h hR (.refl _ _)
def rCheckSpec : Vm.Spec := fun args h Q => ∃ (R : RId) (f : Fun) (n : Int), args = [.ptr R.iv 0, .v (.int .i64 n)] ∧ isRef h R f ∧ f.n ≤ 536870912 ∧ Q (.v (.int .i64 (checkY f n))) h
theorem does_rCheck : Does Tryz.prog 93 rCheckSpec := by
 refine dA (good_cons does_rState good_nil) Tryz.func93 rfl (by decide +kernel) ?_
 rintro args h Q ⟨R, f, n, rfl, hR, hn, hq⟩
 refine ⟨by simp [Tryz.f93], ?_⟩
 unfold checkY at hq
 simp -dsimp only [Vm.E, zA, zB, zC, zD, zE, zG, zH]
 refine call_one (S := rStateSpec) rfl _ GaL.rfl ⟨R, f, n, rfl, hR, hn, ?_⟩
 rcases stateOf_cases f n with e | e | e <;> rw [e] at hq ⊢ <;> simp -dsimp only [Vm.E, zA, zB, zC, zD, zE, zG, zH, Tryz.results93] <;> exact hq
end Go.Proofs.Lx
namespace Go.Proofs.Lx
open Go.Vm
attribute [local irreducible] awpArr awpBin awpMake awpAppend awpCvX awpStrOf awpBinX awpSlice awpBS awpStore awpAlloc awpCopy awpIndex awpDraw awpIdxX awpFa awpField awpLookup awpUpdate awpDelete awpClear awpRange awpNext awpEntry awpBuild awpClearS awpIdxL awpTree appB
abbrev preL (pre : List UInt8) (l : List KV) : List KV := l.filter fun p => pre.isPrefixOf p.1
def tScanSpec : Vm.Spec := fun args h Q => ∃ (i : Nat) (l : List KV) (pre : List UInt8), args = [.ptr i 0, .sl 1 (pre.map encB)] ∧ h[i]? = some (tabObj l) ∧ l.length ≤ 1073741824 ∧ pre.length ≤ 1073741824 ∧ (∀ p ∈ l, p.1.length ≤ 32) ∧
 Q (.own true 132 2 ((preL pre l).map kvAv)) h
theorem does_tScan : Does Tryz.prog 133 tScanSpec := by
 refine does_of_awp good_nil Tryz.func133 rfl (by decide +kernel) (by decide +kernel) ?_
 rintro args h Q ⟨id, l, pre, rfl, hh, hl, hpl, hk32, hq⟩
 unfold tabObj at hh
 refine ⟨by simp [Tryz.f133], ?_⟩
 rw [awpFunc_some (by rfl)]
 simp -dsimp only [Vm.E, zA, zB, zC, zD, zE, zG, zH]
 refine awp_loop (fun m s h' => ∃ i : Nat, i + m = l.length ∧ h' = h ∧ s = mk [(0, .ptr id 0), (1, .sl 1 (pre.map encB)), (5, .own true 132 2 ((preL pre (l.take i)).map kvAv)), (6, .v (.int .i64 i))])
   l.length _ (le_mk _ ?_) ⟨0, by omega, rfl, rfl⟩ ?_
 · simp only [Vm.D]
   simp -dsimp only [Vm.E, zA, zB, zC, zD, zE, zG, zH]
   exact ⟨.refl _, .refl _, .nil _ _ _ (by decide), .refl _⟩
 · rintro m s h' ⟨i, hi, rfl, rfl⟩
   simp -dsimp only [Vm.E, zA, zB, zC, zD, zE, zG, zH, fo74_0, hh, of60, Tryz.underlying60]
   refine cond_intro (fun hcc => ?_) (fun hcc => ?_)
   · have hlt : i < l.length := by have := of_decide_eq_true hcc; omega
     have hw := hwN i (by omega)
     obtain ⟨p, hp⟩ : ∃ p, l[i] = p := ⟨_, rfl⟩
     have hkp := hk32 p (hp ▸ zJb hlt)
     have hpre : (preL pre (l.take i)).length ≤ i := Nat.le_trans (List.length_filter_le ..) (by rw [zUa]; omega)
     have est : preL pre (l.take (i + 1)) = preL pre (l.take i) ++ if pre.isPrefixOf p.1 then [p] else [] := by
       rw [zSa hlt, preL, List.filter_append, hp, List.filter_cons, List.filter_nil]
     simp -dsimp only [Vm.E, zA, zB, zC, zD, zE, zG, zH, fo74_0, hh, of60, es60, as60]
     refine idx_map kvAv l i hlt ?_
     simp only [hp, kvAv]
     simp -dsimp only [Vm.G, zA, zB, zC, zD, zE, zF, AV.cells, fo132_0, of123]
     have e1 : (p.1.map encB).take (pre.length : Int).toNat = (p.1.take pre.length).map encB := by rw [zNa, List.map_take]
     refine draw_cont [] (.take 0 (.take 1 (.take 2 (.take 3 (.take 4 (.take 5 (.take 6 (.take 7 (.take 8 (.take 9 (.take 11 (.alt 10 (.alt 12 (.take 13 (.take 14 (.done))) .stop) (.alt 12 (.alt 10 (.take 13 (.take 14 (.done))) .stop) (.stop)))))))))))))) (fun s hx => hx = h' ∧ s 39 = .v (.bool (pre.isPrefixOf p.1)) ∧ s 0 = .ptr id 0 ∧ s 1 = .sl 1 (pre.map encB) ∧ s 5 = .own true 132 2 ((preL pre (l.take i)).map kvAv) ∧ s 6 = .v (.int .i64 i)) (by kernel_rfl) (by kernel_rfl) (by kernel_rfl) (by decide) ?_ ?_
     · by_cases hle : pre.length ≤ p.1.length
       · have c1 : decide ((p.1.length : Int) ≥ pre.length) = true := decide_eq_true (by omega)
         simp only [← isPrefixOf_take p.1 pre hle]
         repeat' first
           | with_reducible exact True.intro
           | simp -dsimp only [Vm.E, zA, zB, zC, zD, zE, zG, zH, c1, e1, Tryz.underlying123, cs123, str_eql, toList_mk]
           | refine strOf_sl bt123 pre rfl ?_
           | refine strOf_sl bt123 (p.1.take pre.length) rfl ?_
           | refine slice_h es123 (by omega) (by rw [zIa]; omega) ?_
           | refine tree_alt ?_ ?_
       · have c1 : decide ((p.1.length : Int) ≥ pre.length) = false := decide_eq_false (by omega)
         simp only [isPrefixOf_long p.1 pre hle]
         repeat' first
           | with_reducible exact True.intro
           | simp -dsimp only [Vm.E, zA, zB, zC, zD, zE, zG, zH, c1, Tryz.underlying123]
           | refine tree_alt ?_ ?_
     · rintro s hx ⟨rfl, e39, e0, e1, e5, e6⟩
       cases hb : pre.isPrefixOf p.1
       · rw [hb] at e39 est
         simp only [zUb, if_false, zLa] at est
         simp -dsimp only [Vm.E, zA, zB, zC, zD, zE, zG, zH, e39, e0, e1, e5, e6]
         refine kept_intro ⟨l.length - (i + 1), by omega, _, le_mk [(0, .ptr id 0), (1, .sl 1 (pre.map encB)), (5, .own true 132 2 ((preL pre (l.take (i + 1))).map kvAv)), (6, .v (.int .i64 (i + 1 : Nat)))] ?_, i + 1, by omega, rfl, rfl⟩
         simp only [Vm.D, est]
         simp -dsimp only [Vm.E, zA, zB, zC, zD, zE, zG, zH, e39, e0, e1, e5, e6, hw]
         exact ⟨.refl _, .refl _, .refl _, .refl _⟩
       · rw [hb] at e39 est
         simp only [if_true] at est
         simp -dsimp only [Vm.E, zA, zB, zC, zD, zE, zG, zH, e39, e0, e1, e5, e6, fo74_0, hh, of60, es60, as60]
         refine idx_map kvAv l i hlt ?_
         simp only [hp, kvAv]
         simp -dsimp only [Vm.E, zA, zB, zC, zD, zE, zG, zH, e39, e0, e1, e5, e6, Vm.S, Nat.reduceLeDiff, AV.cells, of132, es60]
         refine bs_intro zr132 (by decide) (by decide) rfl rfl (by simp [solid, AV.cells]) ?_
         simp -dsimp only [Vm.E, zA, zB, zC, zD, zE, zG, zH, e39, e0, e1, e5, e6, append_own ei60]
         refine app_sl Tryz.underlying60 (by simp [AV.cells]) (by simp only [zIa, zKa, zMa]; omega) ?_
         simp -dsimp only [Vm.E, zA, zB, zC, zD, zE, zG, zH, e39, e0, e1, e5, e6]
         refine kept_intro ⟨l.length - (i + 1), by omega, _, le_mk [(0, .ptr id 0), (1, .sl 1 (pre.map encB)), (5, .own true 132 2 ((preL pre (l.take (i + 1))).map kvAv)), (6, .v (.int .i64 (i + 1 : Nat)))] ?_, i + 1, by omega, rfl, rfl⟩
         simp only [Vm.D, est, zQa, zVa, zIb, kvAv]
         simp -dsimp only [Vm.E, zA, zB, zC, zD, zE, zG, zH, e39, e0, e1, e5, e6, hw]
         exact ⟨.refl _, .refl _, .refl _, .refl _⟩
   · have hge : ¬ i < l.length := by have := of_decide_eq_false hcc; omega
     simp -dsimp only [Vm.E, zA, zB, zC, zD, zE, zG, zH, Tryz.results133]
     rw [zJa (by omega)]
     exact hq
def rScanSpec : Vm.Spec := fun args h Q => ∃ (R : RId) (f : Fun) (pre : List UInt8), args = [.ptr R.iv 0, .sl 1 (pre.map encB)] ∧ pre.length ≤ 1073741824 ∧ isRef h R f ∧ f.n ≤ 536870912 ∧
 ∀ l, ScanIs f pre l → l.length ≤ f.n → Q (.own true 132 2 (l.map kvAv)) h
theorem does_rScan : Does Tryz.prog 52 rScanSpec := by
 refine dA (good_cons does_tScan good_nil) Tryz.func52 rfl (by decide +kernel) ?_
 rintro args h Q ⟨R, f, pre, rfl, hpl, hR, hn, hq⟩
 refine ⟨by simp [Tryz.f52], ?_⟩
 obtain ⟨lw, ln, lt, h1, h2, h3, h4, h5, h6, h7, h8⟩ := hR
 simp -dsimp only [Vm.G, zA, zB, zC, zD, zE, zF, fo76_1, h1, of72]
 refine call_one (S := tScanSpec) rfl _ GaL.rfl ⟨R.inn, ln, pre, rfl, h3, by omega, hpl, fun p hp => (h8 p hp).1, ?_⟩
 simp -dsimp only [Vm.E, zA, zB, zC, zD, zE, zG, zH, Tryz.results52]
 exact hq _ (h6.scan pre) (Nat.le_trans (List.length_filter_le ..) h7.1)
def Both (h : Heap) (V : VId) (R : RId) (f : Fun) : Prop := isView h V f ∧ isRef h R f ∧ (∀ i ∈ [V.iv, V.ic, V.im], i ∉ [R.iv, R.iw, R.inn, R.it])
theorem get_lt {h : Heap} {i : Nat} {o : AObj} (hx : h[i]? = some o) : i < h.length := by
 rcases Nat.lt_or_ge i h.length with h' | h'
 · exact h'
 · rw [zMb h'] at hx; cases hx
theorem Same.get {h h' : Heap} {fp : List Nat} (hs : Same h h' fp) {i : Nat} {o : AObj} (hx : h[i]? = some o) (hi : i ∉ fp) : h'[i]? = some o := by rw [hs.2 i (get_lt hx) hi]; exact hx
theorem isView.same {h h' : Heap} {V : VId} {f : Fun} {fp : List Nat} (hV : isView h V f) (hs : Same h h' fp) (hd : ∀ i ∈ [V.iv, V.ic, V.im], i ∉ fp) : isView h' V f := by
 obtain ⟨chg, clk, mem, clk2, h1, h2, h3, h4⟩ := hV
 exact ⟨chg, clk, mem, clk2, hs.get h1 (hd _ (by simp)), hs.get h2 (hd _ (by simp)), hs.get h3 (hd _ (by simp)), h4⟩
theorem isRef.same {h h' : Heap} {R : RId} {f : Fun} {fp : List Nat} (hR : isRef h R f) (hs : Same h h' fp) (hd : ∀ i ∈ [R.iv, R.iw, R.inn, R.it], i ∉ fp) : isRef h' R f := by
 obtain ⟨lw, ln, lt, h1, h2, h3, h4, h5⟩ := hR
 exact ⟨lw, ln, lt, hs.get h1 (hd _ (by simp)), hs.get h2 (hd _ (by simp)), hs.get h3 (hd _ (by simp)), hs.get h4 (hd _ (by simp)), h5⟩
theorem Both.view {h h' : Heap} {V : VId} {R : RId} {f g : Fun} (hB : Both h V R f) (hV : isView h' V g) (hs : Same h h' [V.ic]) : isRef h' R f := by
 refine hB.2.1.same hs fun i hi hm => ?_
 rw [zQb] at hm; subst hm
 exact hB.2.2 V.ic (by simp) hi
theorem Both.ref {h h' h2 : Heap} {V : VId} {R : RId} {f g : Fun} (hB : Both h V R f) (hV : isView h' V g) (hR : isRef h2 R g) (hs : Same h' h2 (rFoot R)) : Both h2 V R g := by
 refine ⟨hV.same hs fun i hi hm => ?_, hR, hB.2.2⟩
 refine hB.2.2 i hi ?_
 simp [rFoot] at hm ⊢
 rcases hm with rfl | rfl <;> simp
theorem Both.quiet {h h' : Heap} {V : VId} {R : RId} {f : Fun} (hB : Both h V R f) (hV : isView h' V f) (hs : Same h h' []) : Both h' V R f :=
 ⟨hV, hB.2.1.same hs (by simp), hB.2.2⟩
end Go.Proofs.Lx
namespace Go.Proofs.Lx
open Go.Vm
attribute [local irreducible] awpArr awpBin awpMake awpAppend awpCvX awpStrOf awpBinX awpSlice awpBS awpStore awpAlloc awpCopy awpIndex awpDraw awpIdxX awpFa awpField awpLookup awpUpdate awpDelete awpClear awpRange awpNext awpEntry awpBuild awpClearS awpIdxL
theorem nodeAt_id {f : Fun} {year id : Int} {n : Nd} (h : nodeAt f year id = some n) : n.id = id := by
 unfold nodeAt at h
 split at h
 · cases h
 · split at h
   · split at h
     · rename_i hc; cases h; exact hc.2
     · cases h
   · cases h
theorem isA_nd {y : AV} (h : IsA (.agg [.int .i64, .int .i64, .int .i64, .int .i64, .int .i64, .bool, .int .i64, .int .i64, .int .i64, .int .i64, .int .i64, .int .i64]) y) : ∃ n : Nd, n.ok ∧ y = ndAv n := by
 simp only [IsA, IsAll] at h
 obtain ⟨ys, ⟨y1, r1, rfl, h1, y2, r2, rfl, h2, y3, r3, rfl, h3, y4, r4, rfl, h4, y5, r5, rfl, h5, y6, r6, rfl, h6, y7, r7, rfl, h7, y8, r8, rfl, h8, y9, r9, rfl, h9, y10, r10, rfl, h10, y11, r11, rfl, h11, y12, r12, rfl, h12, rfl⟩, rfl⟩ := h
 obtain ⟨a1, k1, rfl⟩ := isA_int (by simpa only [IsA] using h1)
 obtain ⟨a2, k2, rfl⟩ := isA_int (by simpa only [IsA] using h2)
 obtain ⟨a3, k3, rfl⟩ := isA_int (by simpa only [IsA] using h3)
 obtain ⟨a4, k4, rfl⟩ := isA_int (by simpa only [IsA] using h4)
 obtain ⟨a5, k5, rfl⟩ := isA_int (by simpa only [IsA] using h5)
 obtain ⟨a6, rfl⟩ := h6
 obtain ⟨a7, k7, rfl⟩ := isA_int (by simpa only [IsA] using h7)
 obtain ⟨a8, k8, rfl⟩ := isA_int (by simpa only [IsA] using h8)
 obtain ⟨a9, k9, rfl⟩ := isA_int (by simpa only [IsA] using h9)
 obtain ⟨a10, k10, rfl⟩ := isA_int (by simpa only [IsA] using h10)
 obtain ⟨a11, k11, rfl⟩ := isA_int (by simpa only [IsA] using h11)
 obtain ⟨a12, k12, rfl⟩ := isA_int (by simpa only [IsA] using h12)
 exact ⟨⟨a1, a2, a3, a4, a5, a6, a7, a8, a9, a10, a11, a12⟩, ⟨k1, k2, k3, k4, k5, k7, k8, k9, k10, k11, k12⟩, rfl⟩
end Go.Proofs.Lx
namespace Go.Proofs.Lx
open Go.Vm
attribute [local irreducible] awpArr awpBin awpMake awpAppend awpCvX awpStrOf awpBinX awpSlice awpBS awpStore awpAlloc awpCopy awpIndex awpDraw awpIdxX awpFa awpField awpLookup awpUpdate awpDelete awpClear awpRange awpNext awpEntry awpBuild awpClearS awpIdxL awpTree appB awpIdxO eltA treeA
structure Ln where
 fund : Int
 obj : Int
 node : Int
 amt : Int
def lnCells (x : Ln) : List AV := [.v (.int .i64 x.fund), .v (.int .i64 x.obj), .v (.int .i64 x.node), .v (.int .i64 x.amt)]
def lnAv (x : Ln) : AV := .agg (lnCells x)
theorem readOf_none {f : Fun} {k : List UInt8} (h : f k = none) : readOf f k = 0 := by unfold readOf; rw [h]
end Go.Proofs.Lx
namespace Go.Proofs.Lx
open Go.Vm
attribute [local irreducible] awpArr awpBin awpMake awpAppend awpCvX awpStrOf awpBinX awpSlice awpBS awpStore awpAlloc awpCopy awpIndex awpDraw awpIdxX awpFa awpField awpLookup awpUpdate awpDelete awpClear awpRange awpNext awpEntry awpBuild awpClearS awpIdxL
end Go.Proofs.Lx
namespace Go.Proofs.Lx
open Go.Vm
attribute [local irreducible] awpArr awpBin awpMake awpAppend awpCvX awpStrOf awpBinX awpSlice awpBS awpStore awpAlloc awpCopy awpIndex awpDraw awpIdxX awpFa awpField awpLookup awpUpdate awpDelete awpClear awpRange awpNext awpEntry awpBuild awpClearS awpIdxL awpTree
theorem num4_cons (t : UInt8) (r : List UInt8) (i : Nat) (h : 4 * i + 4 ≤ r.length) : getRes (t :: r) ((1 + 4 * i : Nat) : Int) 4 = [.v (.int .i64 (num4 r i)), .v (.int .i64 0)] := by
 unfold getRes num4
 rw [if_neg (by simp [sized]; omega), if_neg (by simp only [zKa]; omega), zNa]
 rw [show 1 + 4 * i = (4 * i) + 1 by omega, List.drop_succ_cons]
 rfl
theorem does_rSplit : Does Tryz.prog 206 splitSpec := by
 refine does_of_awpO 1 (good_cons does_refGet good_nil) Tryz.func206 rfl (by decide +kernel) (by decide +kernel) ?_
 rintro args h Q ⟨b, hl, rfl, hq0, hq⟩
 refine ⟨by simp [Tryz.f206], ?_⟩
 rw [awpFuncO_some (by rfl)]
 simp -dsimp only [Vm.E, zA, zB, zC, zD, zE, zG, zH, Tryz.underlying123]
 cases b with
 | nil =>
   have c1 : decide (((0 : Nat) : Int) < 1) = true := rfl
   simp -dsimp only [Vm.G, zA, zB, zC, zD, zE, zF, q206.1, c1]
   exact hq0 rfl
 | cons t r =>
   have c1 : decide (((r.length + 1 : Nat) : Int) < 1) = false := decide_eq_false (by omega)
   simp -dsimp only [Vm.G, zA, zB, zC, zD, zE, zF, q206.1, c1]
   unfold splitOf at hq0 hq
   by_cases d2 : r.length ≤ 28
   · have c2 : decide (((r.length + 1 : Nat) : Int) > 29) = false := decide_eq_false (by omega)
     simp -dsimp only [Vm.G, zA, zB, zC, zD, zE, zF, q206.1, c2]
     refine rem_intro (by decide) ?_
     have e2 : ((r.length + 1 : Nat) : Int).tmod 4 = (((r.length + 1) % 4 : Nat) : Int) := by rw [Int.tmod_eq_emod_of_nonneg (by omega)]; omega
     simp only [e2]
     by_cases d1 : r.length % 4 = 0
     · have c3 : ((((r.length + 1) % 4 : Nat) : Int) != 1) = false := by
         have : (r.length + 1) % 4 = 1 := by omega
         rw [this]; rfl
       have hq' := hq t (numsK r (r.length / 4)) (if_pos ⟨d1, d2⟩)
       clear hq hq0
       obtain ⟨k, hk⟩ : ∃ k, r.length = 4 * k := ⟨r.length / 4, by omega⟩
       rw [show r.length / 4 = k by omega] at hq'
       simp -dsimp only [Vm.G, zA, zB, zC, zD, zE, zF, q206.1, c3]
       refine awp_loop (fun m s h' => ∃ i : Nat, i + m = k ∧ h' = h ∧ s = mk [(0, .sl 1 ((t :: r).map encB)), (5, .own true 3 1 ((numsK r i).map encI)), (6, .v (.int .i64 (1 + 4 * i : Nat)))])
         k _ (le_mk _ ?_) ⟨0, by omega, rfl, rfl⟩ ?_
       · simp only [Vm.D]
         simp -dsimp only [Vm.E, zA, zB, zC, zD, zE, zG, zH]
         exact ⟨.refl _, .nil _ _ _ (by decide), .refl _⟩
       · rintro m s h' ⟨i, hi, rfl, rfl⟩
         simp -dsimp only [Vm.E, zA, zB, zC, zD, zE, zG, zH, Tryz.underlying123]
         refine cond_intro (fun hc => ?_) (fun hc => ?_)
         · have hlt : i < k := by have := of_decide_eq_true hc; simp only [zKa, zIa] at this; omega
           simp -dsimp only [Vm.E, zA, zB, zC, zD, zE, zG, zH]
           refine call_one (S := getSpec) rfl _ GaL.rfl ⟨t :: r, ((1 + 4 * i : Nat) : Int), 4, hl, by omega, rfl, ?_⟩
           simp only [num4_cons t r i (by omega)]
           simp -dsimp only [Vm.E, zA, zB, zC, zD, zE, zG, zH, es120]
           refine bs_intro zr3 (by decide) (by decide) rfl rfl (by simp [solid, AV.cells]) ?_
           simp -dsimp only [Vm.E, zA, zB, zC, zD, zE, zG, zH, append_own ei120]
           refine app_sl Tryz.underlying120 (by simp [AV.cells]) (by simp [numsK]; omega) ?_
           simp -dsimp only [Vm.E, zA, zB, zC, zD, zE, zG, zH]
           refine kept_intro ⟨k - (i + 1), by omega, _, le_mk [(0, .sl 1 ((t :: r).map encB)), (5, .own true 3 1 ((numsK r (i + 1)).map encI)), (6, .v (.int .i64 (1 + 4 * (i + 1) : Nat)))] ?_, i + 1, by omega, rfl, rfl⟩
           have ew : IntKind.i64.wrap (((1 + 4 * i : Nat) : Int) + 4) = ((1 + 4 * (i + 1) : Nat) : Int) := by rw [wrap_i64 (by omega) (by omega)]; omega
           have en : (numsK r i).map encI ++ [AV.v (.int .i64 (num4 r i))] = (numsK r (i + 1)).map encI := by simp [numsK, List.range_succ, encI]
           simp only [Vm.D]
           simp -dsimp only [Vm.E, zA, zB, zC, zD, zE, zG, zH, ew, en]
           exact ⟨.refl _, .refl _, .refl _⟩
         · have hge : ¬ i < k := by have := of_decide_eq_false hc; simp only [zKa, zIa] at this; omega
           obtain rfl : i = k := by omega
           simp -dsimp only [Vm.E, zA, zB, zC, zD, zE, zG, zH, es123, as123]
           refine idx_bytes (t :: r) 0 (by simp) ?_
           simp -dsimp only [Vm.E, zA, zB, zC, zD, zE, zG, zH, of5, Tryz.results206]
           exact hq'
     · have c3 : ((((r.length + 1) % 4 : Nat) : Int) != 1) = true := by simp; omega
       simp -dsimp only [Vm.G, zA, zB, zC, zD, zE, zF, q206.1, c3]
       exact hq0 (if_neg (by omega))
   · have c2 : decide (((r.length + 1 : Nat) : Int) > 29) = true := decide_eq_true (by omega)
     simp -dsimp only [Vm.G, zA, zB, zC, zD, zE, zF, q206.1, c2]
     exact hq0 (if_neg (by omega))
def ofOf (key : List UInt8) (tag : UInt8) (many : Int) : Option (List Int) := match splitOf key with
 | some (t, l) => if t = tag ∧ (l.length : Int) = many then some l else none
 | none => none
def rOfSpec : Vm.Spec := fun args h Q => ∃ (b : List UInt8) (tag : UInt8) (many : Int), b.length ≤ 4611686018427387904 ∧ args = [.sl 1 (b.map encB), .v (.int .u8 tag.toNat), .v (.int .i64 many)] ∧
 (ofOf b tag many = none → Q (.tup [.v (.slice none 0 0), .v (.bool false)]) h) ∧ (∀ l, ofOf b tag many = some l → Q (.otup 0 true 3 1 (l.map encI) [.any, .v (.bool true)]) h)
theorem does_rOf : Does Tryz.prog 155 rOfSpec := by
 refine does_of_awpO 0 (good_cons does_rSplit good_nil) Tryz.func155 rfl (by decide +kernel) (by decide +kernel) ?_
 rintro args h Q ⟨b, tag, many, hl, rfl, hq0, hq⟩
 refine ⟨by simp [Tryz.f155], ?_⟩
 rw [awpFuncO_some (by rfl)]
 unfold ofOf at hq0 hq
 simp -dsimp only [Vm.E, zA, zB, zC, zD, zE, zG, zH]
 refine call_one (S := splitSpec) rfl _ GaL.rfl ⟨b, hl, rfl, fun hs => ?_, fun t l hs => ?_⟩
 · rw [hs] at hq0
   unfold noKey
   simp -dsimp only [Vm.E, zA, zB, zC, zD, zE, zG, zH, Tryz.results155]
   exact hq0 rfl
 · rw [hs] at hq0 hq
   simp -dsimp only [Vm.E, zA, zB, zC, zD, zE, zG, zH]
   by_cases d1 : t = tag
   · subst d1
     simp -dsimp only [Vm.E, zA, zB, zC, zD, zE, zG, zH, bne_self_eq_false, Tryz.underlying120]
     by_cases d2 : (l.length : Int) = many
     · have c2 : ((l.length : Int) != many) = false := by simp [d2]
       simp -dsimp only [Vm.G, zA, zB, zC, zD, zE, zF, q155.1, c2]
       exact hq l (if_pos ⟨rfl, d2⟩)
     · have c2 : ((l.length : Int) != many) = true := by simp [d2]
       simp -dsimp only [Vm.G, zA, zB, zC, zD, zE, zF, q155.1, c2]
       exact hq0 (if_neg fun hc => d2 hc.2)
   · have c1 : ((t.toNat : Int) != tag.toNat) = true := by
       simp only [bne_iff_ne, ne_eq]
       exact fun e => d1 (UInt8.toNat_inj.1 (by omega))
     simp -dsimp only [Vm.G, zA, zB, zC, zD, zE, zF, q155.1, c1]
     exact hq0 (if_neg fun hc => d1 hc.1)
end Go.Proofs.Lx
namespace Go.Proofs.Lx
open Go.Vm
attribute [local irreducible] awpArr awpBin awpMake awpAppend awpCvX awpStrOf awpBinX awpSlice awpBS awpStore awpAlloc awpCopy awpIndex awpDraw awpIdxX awpFa awpField awpLookup awpUpdate awpDelete awpClear awpRange awpNext awpEntry awpBuild awpClearS awpIdxL awpTree appB awpIdxO eltA treeA
def rPairSpec : Vm.Spec := fun args h Q => ∃ (tag : UInt8) (kl vl : List Int), kl.length ≤ 4611686018427387904 ∧ vl.length ≤ 4611686018427387904 ∧ (∀ n ∈ vl, I64 n) ∧ args = [.v (.int .u8 tag.toNat), .sl 1 (kl.map encI), .sl 1 (vl.map encI)] ∧
 Q (.agg [.sl 1 ((keyOf tag kl).map encB), .sl 1 ((packOf vl).map encB)]) h
theorem does_rPair : Does Tryz.prog 159 rPairSpec := by
 refine dA (good_cons does_rKey (good_cons does_rPack good_nil)) Tryz.func159 rfl (by decide +kernel) ?_
 rintro args h Q ⟨tag, kl, vl, hk, hv, hi, rfl, hq⟩
 refine ⟨by simp [Tryz.f159], ?_⟩
 simp -dsimp only [Vm.G, zA, zB, zC, zD, zE, zF, q159.1]
 refine call_one (S := keySpec) rfl _ GaL.rfl ⟨tag, kl, by omega, rfl, ?_⟩
 simp -dsimp only [Vm.G, zA, zB, zC, zD, zE, zF, q159.1]
 refine call_one (S := packSpec) rfl _ GaL.rfl ⟨vl, by omega, hi, rfl, ?_⟩
 simp -dsimp only [Vm.G, zA, zB, zC, zD, zE, zF, q159.1]
 exact hq
theorem does_rNode : Does Tryz.prog 84 nodeSpec := by
 refine dA (good_cons does_rPair good_nil) Tryz.func84 rfl (by decide +kernel) ?_
 rintro args h Q ⟨n, ⟨o1, o2, o3, o4, o5, o6, o7, o8, o9, o10, o11⟩, rfl, hq⟩
 refine ⟨by simp [Tryz.f84], ?_⟩
 simp only [ndCells]
 cases ha : n.abs
 · simp -dsimp only [Vm.G, zA, zB, zC, zD, zE, zF, q84.1]
   refine bs_intro zr3 (by decide) (by decide) rfl rfl (by simp [solid, AV.cells]) ?_
   simp -dsimp only [Vm.G, zA, zB, zC, zD, zE, zF, q84.1]
   refine bs_intro zr3 (by decide) (by decide) rfl rfl (by simp [solid, AV.cells]) ?_
   simp -dsimp only [Vm.G, zA, zB, zC, zD, zE, zF, q84.1]
   refine call_one (S := rPairSpec) rfl _ GaL.rfl ⟨78, [n.year, n.id], [n.parent, n.fund, n.obj, 0, n.limit, n.pre, n.enc, n.exp, n.lapsed, n.carried], by simp, by simp, ?_, rfl, ?_⟩
   · intro m hm
     simp only [zOa, zPb, or_false] at hm
     have z0 : I64 0 := by unfold I64; omega
     have z1 : I64 1 := by unfold I64; omega
     rcases hm with rfl | rfl | rfl | rfl | rfl | rfl | rfl | rfl | rfl | rfl <;> assumption
   · simp -dsimp only [Vm.G, zA, zB, zC, zD, zE, zF, q84.1]
     have e : packOf (ndVal n) = packOf [n.parent, n.fund, n.obj, 0, n.limit, n.pre, n.enc, n.exp, n.lapsed, n.carried] := by unfold ndVal; rw [ha]; rfl
     rw [e] at hq
     exact hq
 · simp -dsimp only [Vm.G, zA, zB, zC, zD, zE, zF, q84.1]
   refine bs_intro zr3 (by decide) (by decide) rfl rfl (by simp [solid, AV.cells]) ?_
   simp -dsimp only [Vm.G, zA, zB, zC, zD, zE, zF, q84.1]
   refine bs_intro zr3 (by decide) (by decide) rfl rfl (by simp [solid, AV.cells]) ?_
   simp -dsimp only [Vm.G, zA, zB, zC, zD, zE, zF, q84.1]
   refine call_one (S := rPairSpec) rfl _ GaL.rfl ⟨78, [n.year, n.id], [n.parent, n.fund, n.obj, 1, n.limit, n.pre, n.enc, n.exp, n.lapsed, n.carried], by simp, by simp, ?_, rfl, ?_⟩
   · intro m hm
     simp only [zOa, zPb, or_false] at hm
     have z0 : I64 0 := by unfold I64; omega
     have z1 : I64 1 := by unfold I64; omega
     rcases hm with rfl | rfl | rfl | rfl | rfl | rfl | rfl | rfl | rfl | rfl <;> assumption
   · simp -dsimp only [Vm.G, zA, zB, zC, zD, zE, zF, q84.1]
     have e : packOf (ndVal n) = packOf [n.parent, n.fund, n.obj, 1, n.limit, n.pre, n.enc, n.exp, n.lapsed, n.carried] := by unfold ndVal; rw [ha]; rfl
     rw [e] at hq
     exact hq
def bothOf (tag : UInt8) (k v : Nat) (key val : List UInt8) : Option (List Int × List Int) :=
 match ofOf key tag k with
 | some l => if val.length = 8 * v then some (l, numsOf val v) else none
 | none => none
theorem both_nums (tag : UInt8) (k v : Nat) (key val : List UInt8) : numsPair tag k v key val = (bothOf tag k v key val).map fun p => p.1 ++ p.2 := by
 unfold numsPair bothOf ofOf
 cases splitOf key with
 | none => rfl
 | some p =>
   obtain ⟨t, l⟩ := p
   simp only
   by_cases h1 : t = tag
   · by_cases h2 : l.length = k
     · have h2' : (l.length : Int) = k := by omega
       by_cases h3 : val.length = 8 * v
       · simp [h1, h2, h3]
       · simp [h1, h2, h3]
     · have h2' : ¬ (l.length : Int) = k := by omega
       simp [h1, h2, h2']
   · simp [h1]
def rBothSpec : Vm.Spec := fun args h Q => ∃ (tag : UInt8) (k v : Nat) (key val : List UInt8), v ≤ 15 ∧ k ≤ 15 ∧ key.length ≤ 1073741824 ∧ val.length ≤ 1073741824 ∧ args = [.agg [.sl 1 (key.map encB), .sl 1 (val.map encB)], .v (.int .u8 tag.toNat), .v (.int .i64 k), .v (.int .i64 v)] ∧
 (∀ p, bothOf tag k v key val = some p → Q (.tup [.sl 1 (p.1.map encI), .sl 1 (p.2.map encI), .v (.bool true)]) h) ∧ (bothOf tag k v key val = none → ∀ a b : List Int, Q (.tup [.sl 1 (a.map encI), .sl 1 (b.map encI), .v (.bool false)]) h)
def isI (x : AV) (l : List Int) : Prop := x = .sl 1 (l.map encI) ∨ (l = [] ∧ x = .v (.slice none 0 0))
theorem isI.ga {x : AV} {l : List Int} (h : isI x l) : Ga x (.sl 1 (l.map encI)) := by
 rcases h with rfl | ⟨rfl, rfl⟩
 · exact .refl _
 · exact .nil 1
def rBoth0 : Vm.Spec := fun args h Q => ∃ (tag : UInt8) (k v : Nat) (key val : List UInt8), v ≤ 15 ∧ k ≤ 15 ∧ key.length ≤ 1073741824 ∧ val.length ≤ 1073741824 ∧ args = [.agg [.sl 1 (key.map encB), .sl 1 (val.map encB)], .v (.int .u8 tag.toNat), .v (.int .i64 k), .v (.int .i64 v)] ∧
 (∀ p, bothOf tag k v key val = some p → Q (.tup [.sl 1 (p.1.map encI), .sl 1 (p.2.map encI), .v (.bool true)]) h) ∧ (bothOf tag k v key val = none → ∀ (a b : List Int) (x y : AV), isI x a → isI y b → Q (.tup [x, y, .v (.bool false)]) h)
theorem does_rBoth0 : Does Tryz.prog 222 rBoth0 := by
 refine dA (good_cons does_rOf (good_cons does_rUnpack good_nil)) Tryz.func222 rfl (by decide +kernel) ?_
 rintro args h Q ⟨tag, k, v, key, val, hv, hk, hkl, hvl, rfl, hq1, hq2⟩
 refine ⟨by simp [Tryz.f222], ?_⟩
 unfold bothOf at hq1 hq2
 simp -dsimp only [Vm.G, zA, zB, zC, zD, zE, zF, q222.1]
 refine call_one (S := rOfSpec) rfl _ GaL.rfl ⟨key, tag, k, by omega, rfl, fun hs => ?_, fun l hs => ?_⟩
 · rw [hs] at hq2
   simp -dsimp only [Vm.G, zA, zB, zC, zD, zE, zF, q222.1]
   refine call_one (S := unpackSpec) rfl _ GaL.rfl ⟨val, v, by omega, by unfold I64; omega, rfl, ?_⟩
   unfold unpackRes
   rw [if_neg (by omega)]
   by_cases h3 : val.length = 8 * v
   · rw [if_neg (by omega)]
     simp -dsimp only [Vm.G, zA, zB, zC, zD, zE, zF, q222.1]
     exact hq2 rfl [] (numsOf val (v : Int).toNat) _ _ (.inr ⟨rfl, rfl⟩) (.inl rfl)
   · rw [if_pos (by omega)]
     simp -dsimp only [Vm.G, zA, zB, zC, zD, zE, zF, q222.1]
     exact hq2 rfl [] [] _ _ (.inr ⟨rfl, rfl⟩) (.inr ⟨rfl, rfl⟩)
 · rw [hs] at hq1 hq2
   simp -dsimp only [Vm.G, zA, zB, zC, zD, zE, zF, q222.1]
   refine call_one (S := unpackSpec) rfl _ GaL.rfl ⟨val, v, by omega, by unfold I64; omega, rfl, ?_⟩
   unfold unpackRes
   rw [if_neg (by omega)]
   by_cases h3 : val.length = 8 * v
   · rw [if_neg (by omega)]
     simp only [if_pos h3] at hq1
     simp -dsimp only [Vm.G, zA, zB, zC, zD, zE, zF, q222.1]
     have := hq1 _ rfl
     simpa using this
   · rw [if_pos (by omega)]
     simp only [if_neg h3] at hq2
     simp -dsimp only [Vm.G, zA, zB, zC, zD, zE, zF, q222.1]
     exact hq2 trivial l [] _ _ (.inl rfl) (.inr ⟨rfl, rfl⟩)
theorem does_rBoth : Does Tryz.prog 222 rBothSpec := by
 refine (Does.weak does_rBoth0).imp ?_
 rintro args h Q ⟨tag, k, v, key, val, hv, hk, hkl, hvl, rfl, hq1, hq2⟩
 exact ⟨tag, k, v, key, val, hv, hk, hkl, hvl, rfl, fun p hp => ⟨_, .refl _, hq1 p hp⟩, fun hn a b x y hx hy => ⟨_, .tup (.cons hx.ga (.cons hy.ga GaL.rfl)), hq2 hn a b⟩⟩
theorem both_length {tag : UInt8} {k v : Nat} {key val : List UInt8} {p : List Int × List Int} (h : bothOf tag k v key val = some p) : p.1.length = k ∧ p.2.length = v := by
 unfold bothOf ofOf at h
 split at h
 · rename_i l hl
   split at hl
   · split at hl
     · rename_i hc
       cases hl
       split at h
       · cases h; exact ⟨by show l.length = k; omega, by simp [numsOf]⟩
       · cases h
     · cases hl
   · cases hl
 · cases h
def rNodeOfSpec : Vm.Spec := fun args h Q => ∃ key val : List UInt8, key.length ≤ 1073741824 ∧ val.length ≤ 1073741824 ∧ args = [.agg [.sl 1 (key.map encB), .sl 1 (val.map encB)]] ∧
 (∀ n, nodeOf key val = some n → Q (.tup [.agg (ndCells n), .v (.bool true)]) h) ∧ (nodeOf key val = none → Q (.tup [.agg (ndCells .zero), .v (.bool false)]) h)
theorem does_rNodeOf : Does Tryz.prog 170 rNodeOfSpec := by
 refine dA (good_cons does_rBoth good_nil) Tryz.func170 rfl (by decide +kernel) ?_
 rintro args h Q ⟨key, val, hk, hv, rfl, hq1, hq2⟩
 refine ⟨by simp [Tryz.f170], ?_⟩
 unfold nodeOf at hq1 hq2
 rw [both_nums] at hq1 hq2
 simp only [ndCells, Nd.zero] at hq2
 simp -dsimp only [Vm.G, zA, zB, zC, zD, zE, zF, q170.1]
 refine call_one (S := rBothSpec) rfl _ GaL.rfl ⟨78, 2, 10, key, val, by omega, by omega, hk, hv, rfl, fun p hp => ?_, fun hp a b => ?_⟩
 · have hlen := both_length hp
   obtain ⟨kl, vl⟩ := p
   obtain ⟨hl1, hl2⟩ := hlen
   match kl, hl1 with
   | [k0, k1], _ =>
   match vl, hl2 with
   | [b0, b1, b2, b3, b4, b5, b6, b7, b8, b9], _ =>
   rw [hp] at hq1
   have hq1' := hq1 _ rfl
   clear hq1 hq2 hp
   simp -dsimp only [Vm.G, zA, zB, zC, zD, zE, zF, q170.1]
   refine draw_cont [] (.take 0 (.take 1 (.take 2 (.take 3 (.take 4 (.take 5 (.take 6 (.take 7 (.take 8 (.take 9 (.take 10 (.take 11 (.take 12 (.take 13 (.take 14 (.take 15 (.take 16 (.take 17 (.take 18 (.take 19 (.take 20 (.take 21 (.take 22 (.take 23 (.take 24 (.take 25 (.take 26 (.take 27 (.take 28 (.take 29 (.take 30 (.take 31 (.take 32 (.take 33 (.take 34 (.take 35 (.take 36 (.alt 37 (.alt 38 (.alt 39 (.done) .stop) .stop) .stop)))))))))))))))))))))))))))))))))))))) (fun s h2 => h2 = h ∧ s 2 = .box (ndCells ⟨k0, k1, b0, b1, b2, b3 != 0, b4, b5, b6, b7, b8, b9⟩) ∧ s 3 = .v (.bool true)) (by kernel_rfl) (by kernel_rfl) (by kernel_rfl) (by decide) ?_ ?_
   · simp -dsimp only [Vm.G, zA, zB, zC, zD, zE, zF, q170.1, idx_lit, idxE_some, Int.reduceToNat, Int.reduceLE, decide_true, eq_self, encI]
     repeat' first | rfl | exact True.intro | refine And.intro ?_ ?_
   · rintro s h2 ⟨rfl, e2, e3⟩
     simp only [ndCells] at e2
     simp -dsimp only [Vm.G, zA, zB, zC, zD, zE, zF, q170.1, e2, e3]
     exact hq1'
 · rw [hp] at hq2
   simp -dsimp only [Vm.G, zA, zB, zC, zD, zE, zF, q170.1]
   exact hq2 rfl
def rtPutSpec : Vm.Spec := fun args h Q => ∃ (R : RId) (f : Fun) (n : Nd), args = [.ptr R.iv 0, .agg (ndCells n)] ∧ n.ok ∧ isRef h R f ∧ f.n ≤ 536870912 ∧ ∀ h', isRef h' R (upd f (ndK n) (some (ndV n))) → Same h h' (rFoot R) → Q (.v (.int .i64 0)) h'
theorem does_rtPut : Does Tryz.prog 29 rtPutSpec := by
 refine dA (good_cons does_rNode (good_cons does_rPut good_nil)) Tryz.func29 rfl (by decide +kernel) ?_
 rintro args h Q ⟨R, f, n, rfl, hn, hR, hfn, hq⟩
 refine ⟨by simp [Tryz.f29], ?_⟩
 simp only [ndCells]
 simp -dsimp only [Vm.G, zA, zB, zC, zD, zE, zF, q29.1]
 refine call_one (S := nodeSpec) rfl _ GaL.rfl ⟨n, hn, rfl, ?_⟩
 simp -dsimp only [Vm.G, zA, zB, zC, zD, zE, zF, q29.1]
 refine call_one (S := rPutSpec) rfl _ GaL.rfl ⟨R, f, ndK n, ndV n, rfl, hR, hfn, fun _ h' g1 g2 => ?_, fun hc => by rw [right_nd] at hc; cases hc⟩
 simp -dsimp only [Vm.G, zA, zB, zC, zD, zE, zF, q29.1]
 exact hq h' g1 g2
theorem nodeOf_nil (key : List UInt8) : nodeOf key [] = none := by
 unfold nodeOf numsPair
 cases splitOf key with
 | none => rfl
 | some p => simp
def rtGetSpec : Vm.Spec := fun args h Q => ∃ (R : RId) (f : Fun) (year id : Int), args = [.ptr R.iv 0, .v (.int .i64 year), .v (.int .i64 id)] ∧ isRef h R f ∧ f.n ≤ 536870912 ∧
 (∀ n, nodeAt f year id = some n → Q (.tup [.agg (ndCells n), .v (.bool true)]) h) ∧ (nodeAt f year id = none → Q (.tup [.agg (ndCells .zero), .v (.bool false)]) h)
theorem does_rtGet : Does Tryz.prog 95 rtGetSpec := by
 refine dA (good_cons does_rKey (good_cons does_rGet (good_cons does_rNodeOf good_nil))) Tryz.func95 rfl (by decide +kernel) ?_
 rintro args h Q ⟨R, f, year, id, rfl, hR, hfn, hq1, hq2⟩
 refine ⟨by simp [Tryz.f95], ?_⟩
 unfold nodeAt at hq1 hq2
 simp only [ndCells, Nd.zero] at hq2
 simp -dsimp only [Vm.G, zA, zB, zC, zD, zE, zF, q95.1]
 refine bs_intro zr3 (by decide) (by decide) rfl rfl (by simp [solid, AV.cells]) ?_
 simp -dsimp only [Vm.G, zA, zB, zC, zD, zE, zF, q95.1]
 refine call_one (S := keySpec) rfl _ GaL.rfl ⟨78, [year, id], by simp, rfl, ?_⟩
 have hk := key2_length 78 year id
 generalize keyOf 78 [year, id] = key at hk hq1 hq2 ⊢
 simp -dsimp only [Vm.G, zA, zB, zC, zD, zE, zF, q95.1]
 refine call_one (S := rGetSpec) rfl _ GaL.rfl ⟨R, f, key, rfl, hR, hfn, fun val hf => ?_, fun hf => ?_⟩
 · have hvl := (hR.len hf).2
   rw [hf] at hq1 hq2
   simp -dsimp only [Vm.G, zA, zB, zC, zD, zE, zF, q95.1]
   refine call_one (S := rNodeOfSpec) rfl _ GaL.rfl ⟨key, val, by omega, by omega, rfl, fun n hn => ?_, fun hn => ?_⟩
   · have hq1 : ∀ m, (if n.year = year ∧ n.id = id then some n else none) = some m → Q (.tup [.agg (ndCells m), .v (.bool true)]) h := fun m hm => hq1 m (by simp only [hn]; exact hm)
     have hq2 := fun hm : (if n.year = year ∧ n.id = id then some n else none) = none => hq2 (by simp only [hn]; exact hm)
     simp only [ndCells] at hq1
     simp only [ndCells]
     simp -dsimp only [Vm.G, zA, zB, zC, zD, zE, zF, q95.1]
     cases c1 : (n.year != year)
     · have d1 : n.year = year := by simpa using c1
       simp -dsimp only [Vm.G, zA, zB, zC, zD, zE, zF, q95.1]
       cases c2 : (n.id != id)
       · have d2 : n.id = id := by simpa using c2
         simp -dsimp only [Vm.G, zA, zB, zC, zD, zE, zF, q95.1]
         exact hq1 n (if_pos ⟨d1, d2⟩)
       · have d2 : ¬ n.id = id := by simpa using c2
         simp -dsimp only [Vm.G, zA, zB, zC, zD, zE, zF, q95.1]
         exact hq2 (if_neg fun hc => d2 hc.2)
     · have d1 : ¬ n.year = year := by simpa using c1
       simp -dsimp only [Vm.G, zA, zB, zC, zD, zE, zF, q95.1]
       exact hq2 (if_neg fun hc => d1 hc.1)
   · have hq2 := hq2 (by simp only [hn])
     simp only [ndCells, Nd.zero]
     simp -dsimp only [Vm.G, zA, zB, zC, zD, zE, zF, q95.1]
     exact hq2
 · rw [hf] at hq2
   simp -dsimp only [Vm.G, zA, zB, zC, zD, zE, zF, q95.1]
   refine call_one (S := rNodeOfSpec) rfl _ GaL.rfl ⟨key, [], by omega, by simp, rfl, fun n hn => (by rw [nodeOf_nil] at hn; cases hn), fun hn => ?_⟩
   simp only [ndCells, Nd.zero]
   simp -dsimp only [Vm.G, zA, zB, zC, zD, zE, zF, q95.1]
   exact hq2 rfl
def rtAllSpec : Vm.Spec := fun args h Q => ∃ (R : RId) (f : Fun) (year : Int), args = [.ptr R.iv 0, .v (.int .i64 year)] ∧ isRef h R f ∧ f.n ≤ 536870912 ∧
 ∀ l, ScanIs f (keyOf 78 [year]) l → l.length ≤ f.n → Q (.own true 29 12 ((allN year l).map ndAv)) h
theorem does_rtAll : Does Tryz.prog 171 rtAllSpec := by
 refine dA (good_cons does_rKey (good_cons does_rScan (good_cons does_rNodeOf good_nil))) Tryz.func171 rfl (by decide +kernel) ?_
 rintro args h Q ⟨R, f, year, rfl, hR, hfn, hq⟩
 refine ⟨by simp [Tryz.f171], ?_⟩
 simp -dsimp only [Vm.G, zA, zB, zC, zD, zE, zF, q171.1]
 refine bs_intro zr3 (by decide) (by decide) rfl rfl (by simp [solid, AV.cells]) ?_
 simp -dsimp only [Vm.G, zA, zB, zC, zD, zE, zF, q171.1]
 refine call_one (S := keySpec) rfl _ GaL.rfl ⟨78, [year], by simp, rfl, ?_⟩
 simp -dsimp only [Vm.G, zA, zB, zC, zD, zE, zF, q171.1]
 refine call_one (S := rScanSpec) rfl _ GaL.rfl ⟨R, f, keyOf 78 [year], rfl, by rw [key1_length]; decide, hR, hfn, fun l hsc hln => ?_⟩
 simp -dsimp only [Vm.G, zA, zB, zC, zD, zE, zF, q171.1]
 refine awp_loop (fun m s h' => ∃ i : Nat, i + m = l.length ∧ h' = h ∧ s = mk [(1, .v (.int .i64 year)), (5, .own true 29 12 ((allN year (l.take (i))).map ndAv)), (6, .own true 132 2 (l.map kvAv)), (7, .v (.int .i64 (i : Nat)))])
   l.length _ (le_mk _ ?_) ⟨0, by omega, rfl, rfl⟩ ?_
 · simp only [Vm.D]
   try simp -dsimp only [Vm.G, zA, zB, zC, zD, zE, zF, q171.1]
   repeat' first | exact .refl _ | exact .nil _ _ _ (by decide) | refine ⟨?_, ?_⟩
 · rintro m s h' ⟨i, hi, rfl, rfl⟩
   simp -dsimp only [Vm.G, zA, zB, zC, zD, zE, zF, q171.1, zIa]
   refine cond_intro (fun hcc => ?_) (fun hcc => ?_)
   · have hlt : i < l.length := by have := of_decide_eq_true hcc; omega
     have hw := hwN i (by omega)
     have hget : (l.map kvAv)[i]? = some (kvAv l[i]) := by simp [hlt]
     have est := filterMap_step (inYear year) l i hlt
     have hal : (allN year (l.take i)).length ≤ i := filterMap_le (inYear year) l i
     have hin := ((hsc.2 l[i].1 l[i].2).1 (zJb hlt)).1
     have hkl : l[i].1.length ≤ 32 := (hR.len hin).1
     have hvl : l[i].2.length ≤ 120 := (hR.len hin).2
     clear hin
     generalize l[i] = p at hget est hkl hvl
     obtain ⟨k, v⟩ := p
     simp only at hkl hvl
     have e0 : inYear year (k, v) = match nodeOf k v with | some n => if n.year = year then some n else none | none => none := rfl
     simp -dsimp only [Vm.G, zA, zB, zC, zD, zE, zF, q171.1]
     refine idxO_intro (by omega) (by simp; omega) ?_
     simp -dsimp only [Vm.G, zA, zB, zC, zD, zE, zF, q171.1, zNa]
     refine eltA_intro hget ?_
     simp only [kvAv]
     simp -dsimp only [Vm.G, zA, zB, zC, zD, zE, zF, q171.1, AV.cells, zSb]
     refine call_one (S := rNodeOfSpec) rfl _ GaL.rfl ⟨k, v, by omega, by omega, rfl, fun n hno => ?_, fun hno => ?_⟩
     · rw [hno] at e0
       simp only at e0
       simp only [ndCells]
       simp -dsimp only [Vm.G, zA, zB, zC, zD, zE, zF, q171.1]
       cases c1 : (n.year == year)
       · have d1 : ¬ n.year = year := by simpa using c1
         rw [if_neg d1] at e0
         rw [e0] at est
         simp -dsimp only [Vm.G, zA, zB, zC, zD, zE, zF, q171.1]
         refine kept_intro ⟨l.length - (i + 1), by omega, _, le_mk [(1, .v (.int .i64 year)), (5, .own true 29 12 ((allN year (l.take (i + 1))).map ndAv)), (6, .own true 132 2 (l.map kvAv)), (7, .v (.int .i64 (i + 1 : Nat)))] ?_, i + 1, by omega, rfl, rfl⟩
         simp only [Vm.D, hw, est, zPa, zLa]
         try simp -dsimp only [Vm.G, zA, zB, zC, zD, zE, zF, q171.1, hw, est, zPa, zLa]
         repeat' first | exact .refl _ | exact .nil _ _ _ (by decide) | refine ⟨?_, ?_⟩
       · have d1 : n.year = year := by simpa using c1
         rw [if_pos d1] at e0
         rw [e0] at est
         simp -dsimp only [Vm.G, zA, zB, zC, zD, zE, zF, q171.1]
         refine bs_intro zr29 (by decide) (by decide) rfl rfl (by simp [solid, AV.cells]) ?_
         simp -dsimp only [Vm.G, zA, zB, zC, zD, zE, zF, q171.1]
         refine app_sl Tryz.underlying36 (by simp [AV.cells]) (by simp only [zIa, zKa, zMa]; omega) ?_
         simp -dsimp only [Vm.G, zA, zB, zC, zD, zE, zF, q171.1]
         refine kept_intro ⟨l.length - (i + 1), by omega, _, le_mk [(1, .v (.int .i64 year)), (5, .own true 29 12 ((allN year (l.take (i + 1))).map ndAv)), (6, .own true 132 2 (l.map kvAv)), (7, .v (.int .i64 (i + 1 : Nat)))] ?_, i + 1, by omega, rfl, rfl⟩
         simp only [Vm.D, hw, est, zPa, zQa, zVa, zIb, ndAv, ndCells]
         try simp -dsimp only [Vm.G, zA, zB, zC, zD, zE, zF, q171.1, hw, est, zPa, zQa, zVa, zIb, ndAv, ndCells]
         repeat' first | exact .refl _ | exact .nil _ _ _ (by decide) | refine ⟨?_, ?_⟩
     · rw [hno] at e0
       simp only at e0
       rw [e0] at est
       simp only [ndCells]
       simp -dsimp only [Vm.G, zA, zB, zC, zD, zE, zF, q171.1]
       refine kept_intro ⟨l.length - (i + 1), by omega, _, le_mk [(1, .v (.int .i64 year)), (5, .own true 29 12 ((allN year (l.take (i + 1))).map ndAv)), (6, .own true 132 2 (l.map kvAv)), (7, .v (.int .i64 (i + 1 : Nat)))] ?_, i + 1, by omega, rfl, rfl⟩
       simp only [Vm.D, hw, est, zPa, zLa]
       try simp -dsimp only [Vm.G, zA, zB, zC, zD, zE, zF, q171.1, hw, est, zPa, zLa]
       repeat' first | exact .refl _ | exact .nil _ _ _ (by decide) | refine ⟨?_, ?_⟩
   · have hge : ¬ i < l.length := by have := of_decide_eq_false hcc; omega
     simp -dsimp only [Vm.G, zA, zB, zC, zD, zE, zF, q171.1]
     rw [zJa (by omega)]
     exact hq l hsc hln
def rtKidsSpec : Vm.Spec := fun args h Q => ∃ (R : RId) (f : Fun) (year id : Int), args = [.ptr R.iv 0, .v (.int .i64 year), .v (.int .i64 id)] ∧ isRef h R f ∧ f.n ≤ 536870912 ∧
 ∀ l, ScanIs f (keyOf 78 [year]) l → l.length ≤ f.n → Q (.own true 29 12 ((kidsN year id l).map ndAv)) h
theorem does_rtKids : Does Tryz.prog 98 rtKidsSpec := by
 refine dA (good_cons does_rtAll good_nil) Tryz.func98 rfl (by decide +kernel) ?_
 rintro args h Q ⟨R, f, year, id, rfl, hR, hfn, hq⟩
 refine ⟨by simp [Tryz.f98], ?_⟩
 simp -dsimp only [Vm.G, zA, zB, zC, zD, zE, zF, q98.1]
 refine call_one (S := rtAllSpec) rfl _ GaL.rfl ⟨R, f, year, rfl, hR, hfn, fun l hsc hln => ?_⟩
 have hq := hq l hsc hln
 have hal : (allN year l).length ≤ l.length := List.length_filterMap_le (inYear year) l
 unfold kidsN at hq
 generalize allN year l = ns at hq hal ⊢
 simp -dsimp only [Vm.G, zA, zB, zC, zD, zE, zF, q98.1]
 refine awp_loop (fun m s h' => ∃ i : Nat, i + m = ns.length ∧ h' = h ∧ s = mk [(2, .v (.int .i64 id)), (7, .own true 29 12 (((ns.take (i)).filter fun n => n.parent == id).map ndAv)), (8, .own true 29 12 (ns.map ndAv)), (9, .v (.int .i64 (i : Nat)))])
   ns.length _ (le_mk _ ?_) ⟨0, by omega, rfl, rfl⟩ ?_
 · simp only [Vm.D]
   try simp -dsimp only [Vm.G, zA, zB, zC, zD, zE, zF, q98.1]
   repeat' first | exact .refl _ | exact .nil _ _ _ (by decide) | refine ⟨?_, ?_⟩
 · rintro m s h' ⟨i, hi, rfl, rfl⟩
   simp -dsimp only [Vm.G, zA, zB, zC, zD, zE, zF, q98.1, zIa]
   refine cond_intro (fun hcc => ?_) (fun hcc => ?_)
   · have hlt : i < ns.length := by have := of_decide_eq_true hcc; omega
     have hw := hwN i (by omega)
     have hget : (ns.map ndAv)[i]? = some (ndAv ns[i]) := by simp [hlt]
     have hfl : ((ns.take i).filter fun n => n.parent == id).length ≤ i := Nat.le_trans (List.length_filter_le ..) (by rw [zUa]; omega)
     have est : (ns.take (i + 1)).filter (fun n => n.parent == id) = (ns.take i).filter (fun n => n.parent == id) ++ if ns[i].parent == id then [ns[i]] else [] := by
       rw [zSa hlt, List.filter_append, List.filter_cons, List.filter_nil]
     generalize ns[i] = n at hget est
     simp -dsimp only [Vm.G, zA, zB, zC, zD, zE, zF, q98.1]
     refine idxO_intro (by omega) (by simp; omega) ?_
     simp -dsimp only [Vm.G, zA, zB, zC, zD, zE, zF, q98.1, zNa]
     refine eltA_intro hget ?_
     simp only [ndAv, ndCells]
     simp -dsimp only [Vm.G, zA, zB, zC, zD, zE, zF, q98.1, AV.cells]
     cases c1 : (n.parent == id)
     · rw [c1] at est
       simp -dsimp only [Vm.G, zA, zB, zC, zD, zE, zF, q98.1]
       refine kept_intro ⟨ns.length - (i + 1), by omega, _, le_mk [(2, .v (.int .i64 id)), (7, .own true 29 12 (((ns.take (i + 1)).filter fun n => n.parent == id).map ndAv)), (8, .own true 29 12 (ns.map ndAv)), (9, .v (.int .i64 (i + 1 : Nat)))] ?_, i + 1, by omega, rfl, rfl⟩
       simp only [Vm.D, hw, est, if_true, if_false, zUb, zLa]
       try simp -dsimp only [Vm.G, zA, zB, zC, zD, zE, zF, q98.1, hw, est, if_true, if_false, zUb, zLa]
       repeat' first | exact .refl _ | exact .nil _ _ _ (by decide) | refine ⟨?_, ?_⟩
     · rw [c1] at est
       simp -dsimp only [Vm.G, zA, zB, zC, zD, zE, zF, q98.1]
       refine idxO_intro (by omega) (by simp; omega) ?_
       simp -dsimp only [Vm.G, zA, zB, zC, zD, zE, zF, q98.1, zNa]
       refine eltA_intro hget ?_
       simp only [ndAv, ndCells]
       simp -dsimp only [Vm.G, zA, zB, zC, zD, zE, zF, q98.1, AV.cells, zSb]
       refine bs_intro zr29 (by decide) (by decide) rfl rfl (by simp [solid, AV.cells]) ?_
       simp -dsimp only [Vm.G, zA, zB, zC, zD, zE, zF, q98.1]
       refine app_sl Tryz.underlying36 (by simp [AV.cells]) (by simp only [zIa, zKa, zMa]; omega) ?_
       simp -dsimp only [Vm.G, zA, zB, zC, zD, zE, zF, q98.1]
       refine kept_intro ⟨ns.length - (i + 1), by omega, _, le_mk [(2, .v (.int .i64 id)), (7, .own true 29 12 (((ns.take (i + 1)).filter fun n => n.parent == id).map ndAv)), (8, .own true 29 12 (ns.map ndAv)), (9, .v (.int .i64 (i + 1 : Nat)))] ?_, i + 1, by omega, rfl, rfl⟩
       simp only [Vm.D, hw, est, if_true, zQa, zVa, zIb, ndAv, ndCells]
       try simp -dsimp only [Vm.G, zA, zB, zC, zD, zE, zF, q98.1, hw, est, if_true, zQa, zVa, zIb, ndAv, ndCells]
       repeat' first | exact .refl _ | exact .nil _ _ _ (by decide) | refine ⟨?_, ?_⟩
   · have hge : ¬ i < ns.length := by have := of_decide_eq_false hcc; omega
     simp -dsimp only [Vm.G, zA, zB, zC, zD, zE, zF, q98.1]
     rw [zJa (by omega)]
     exact hq
def rtPathSpec : Vm.Spec := fun args h Q => ∃ (R : RId) (f : Fun) (year id : Int), args = [.ptr R.iv 0, .v (.int .i64 year), .v (.int .i64 id)] ∧ isRef h R f ∧ f.n ≤ 536870912 ∧ Q (.own true 29 12 ((pathOf f year 8 id).map ndAv)) h
theorem does_rtPath : Does Tryz.prog 96 rtPathSpec := by
 refine dA (good_cons does_rtGet good_nil) Tryz.func96 rfl (by decide +kernel) ?_
 rintro args h Q ⟨R, f, year, id, rfl, hR, hfn, hq⟩
 refine ⟨by simp [Tryz.f96], ?_⟩
 simp -dsimp only [Vm.G, zA, zB, zC, zD, zE, zF, q96.1]
 refine awp_loop (fun m s h' => ∃ (id' : Int) (done : List Nd), done.length + m = 8 ∧ h' = h ∧ done ++ pathOf f year m id' = pathOf f year 8 id ∧ s = mk [(0, .ptr R.iv 0), (1, .v (.int .i64 year)), (2, .v (.int .i64 id')), (7, .own true 29 12 (done.map ndAv))])
   8 _ (le_mk _ ?_) ⟨id, [], rfl, rfl, rfl, rfl⟩ ?_
 · simp only [Vm.D]
   try simp -dsimp only [Vm.G, zA, zB, zC, zD, zE, zF, q96.1]
   repeat' first | exact .refl _ | exact .nil _ _ _ (by decide) | refine ⟨?_, ?_⟩
 · rintro m s h' ⟨id', done, hd, rfl, hp, rfl⟩
   simp -dsimp only [Vm.G, zA, zB, zC, zD, zE, zF, q96.1, zIa]
   refine cond_intro (fun hc => ?_) (fun hc => ?_)
   · have hlt : done.length < 8 := by have := of_decide_eq_true hc; omega
     have hm : m = (m - 1) + 1 := by omega
     generalize m - 1 = k at hm
     rw [hm] at hp
     simp only [pathOf] at hp
     simp -dsimp only [Vm.G, zA, zB, zC, zD, zE, zF, q96.1]
     refine call_one (S := rtGetSpec) rfl _ GaL.rfl ⟨R, f, year, id', rfl, hR, hfn, fun n hn => ?_, fun hn => ?_⟩
     · rw [hn] at hp
       have hp : done ++ (n :: if n.parent = 0 then [] else pathOf f year k n.parent) = pathOf f year 8 id := hp
       simp only [ndCells]
       simp -dsimp only [Vm.G, zA, zB, zC, zD, zE, zF, q96.1]
       refine bs_intro zr29 (by decide) (by decide) rfl rfl (by simp [solid, AV.cells]) ?_
       simp -dsimp only [Vm.G, zA, zB, zC, zD, zE, zF, q96.1]
       refine app_sl Tryz.underlying36 (by simp [AV.cells]) (by simp only [zIa, zKa, zMa]; omega) ?_
       have ed : done.map ndAv ++ [AV.agg [.v (.int .i64 n.year), .v (.int .i64 n.id), .v (.int .i64 n.parent), .v (.int .i64 n.fund), .v (.int .i64 n.obj), .v (.bool n.abs), .v (.int .i64 n.limit), .v (.int .i64 n.pre), .v (.int .i64 n.enc), .v (.int .i64 n.exp), .v (.int .i64 n.lapsed), .v (.int .i64 n.carried)]] = (done ++ [n]).map ndAv := by
         simp [ndAv, ndCells]
       simp -dsimp only [Vm.G, zA, zB, zC, zD, zE, zF, q96.1, ed]
       cases c1 : (n.parent == 0)
       · have d1 : ¬ n.parent = 0 := by simpa using c1
         rw [if_neg d1] at hp
         simp -dsimp only [Vm.G, zA, zB, zC, zD, zE, zF, q96.1]
         refine kept_intro ⟨k, by omega, _, le_mk [(0, .ptr R.iv 0), (1, .v (.int .i64 year)), (2, .v (.int .i64 n.parent)), (7, .own true 29 12 ((done ++ [n]).map ndAv))] ?_, n.parent, done ++ [n], by simp only [zTb, zKa, zMa]; omega, rfl, by rw [List.append_assoc]; exact hp, rfl⟩
         simp only [Vm.D]
         try simp -dsimp only [Vm.G, zA, zB, zC, zD, zE, zF, q96.1]
         repeat' first | exact .refl _ | exact .nil _ _ _ (by decide) | refine ⟨?_, ?_⟩
       · have d1 : n.parent = 0 := by simpa using c1
         rw [if_pos d1] at hp
         simp -dsimp only [Vm.G, zA, zB, zC, zD, zE, zF, q96.1]
         rw [← hp] at hq
         exact hq
     · rw [hn] at hp
       have hp : done ++ [] = pathOf f year 8 id := hp
       simp only [ndCells]
       simp -dsimp only [Vm.G, zA, zB, zC, zD, zE, zF, q96.1]
       rw [← hp, zLa] at hq
       exact hq
   · have hge : ¬ done.length < 8 := by have := of_decide_eq_false hc; omega
     have hm : m = 0 := by omega
     rw [hm] at hp
     have hp : done ++ [] = pathOf f year 8 id := hp
     simp -dsimp only [Vm.G, zA, zB, zC, zD, zE, zF, q96.1]
     rw [← hp, zLa] at hq
     exact hq
theorem does_rtUsed : Does Tryz.prog 172 usedSpec := by
 refine dA good_nil Tryz.func172 rfl (by decide +kernel) ?_
 rintro args h Q ⟨n, rfl, hq⟩
 refine ⟨by simp [Tryz.f172], ?_⟩
 unfold usedOf at hq
 simp only [ndCells]
 simp -dsimp only [Vm.G, zA, zB, zC, zD, zE, zF, q172.1]
 exact hq
theorem does_rtGiven : Does Tryz.prog 97 givenSpec := by
 refine dA good_nil Tryz.func97 rfl (by decide +kernel) ?_
 rintro args h Q ⟨l, hl, rfl, hq⟩
 refine ⟨by simp [Tryz.f97], ?_⟩
 simp -dsimp only [Vm.G, zA, zB, zC, zD, zE, zF, q97.1]
 refine awp_loop (fun m s h' => ∃ i : Nat, i + m = l.length ∧ h' = h ∧ s = mk [(0, .sl 12 (l.map ndAv)), (3, .v (.int .i64 (w64s ((l.take i).map (·.limit))))), (4, .v (.int .i64 i))])
   l.length _ (le_mk _ ?_) ⟨0, by omega, rfl, rfl⟩ ?_
 · simp only [Vm.D]
   try simp -dsimp only [Vm.G, zA, zB, zC, zD, zE, zF, q97.1]
   repeat' first | exact .refl _ | exact .nil _ _ _ (by decide) | refine ⟨?_, ?_⟩
 · rintro m s h' ⟨i, hi, rfl, rfl⟩
   simp -dsimp only [Vm.G, zA, zB, zC, zD, zE, zF, q97.1]
   refine cond_intro (fun hcc => ?_) (fun hcc => ?_)
   · have hlt : i < l.length := by have := of_decide_eq_true hcc; omega
     have hw := hwN i (by omega)
     have est : w64s ((l.take (i + 1)).map (·.limit)) = w64 (w64s ((l.take i).map (·.limit)) + l[i].limit) := by
       rw [zSa hlt, zQa, w64s, List.foldl_append]; rfl
     simp -dsimp only [Vm.G, zA, zB, zC, zD, zE, zF, q97.1]
     refine idx_map ndAv l i hlt ?_
     generalize l[i] = n at est
     simp only [ndAv, ndCells]
     simp -dsimp only [Vm.G, zA, zB, zC, zD, zE, zF, q97.1, AV.cells]
     refine kept_intro ⟨l.length - (i + 1), by omega, _, le_mk [(0, .sl 12 (l.map ndAv)), (3, .v (.int .i64 (w64s ((l.take (i + 1)).map (·.limit))))), (4, .v (.int .i64 (i + 1 : Nat)))] ?_, i + 1, by omega, rfl, rfl⟩
     simp only [Vm.D, hw, est]
     try simp -dsimp only [Vm.G, zA, zB, zC, zD, zE, zF, q97.1, hw, est]
     repeat' first | exact .refl _ | exact .nil _ _ _ (by decide) | refine ⟨?_, ?_⟩
   · have hge : ¬ i < l.length := by have := of_decide_eq_false hcc; omega
     simp -dsimp only [Vm.G, zA, zB, zC, zD, zE, zF, q97.1]
     rw [zJa (by omega)]
     exact hq
def askLn (p : Ln → Bool) : Vm.Spec := fun args h Q => ∃ x : Ln, args = [lnAv x] ∧ Q (.v (.bool (p x))) h
def ixSpecLn (T : Tab) : Vm.Spec := fun args h Q => ∃ (g : FuncId) (p : Ln → Bool) (l : List Ln), T g = some (askLn p) ∧ l.length ≤ 9223372036854775807 ∧ args = [.sl 4 (l.map lnAv), .clo g []] ∧ ∀ i : Int, (l.any p = true ↔ 0 ≤ i) → Q (.v (.int .i64 i)) h
theorem does_ixLn {T : Tab} (hT : Good T) : Does Tryz.prog 229 (ixSpecLn T) := by
 refine dA hT Tryz.func229 rfl (by decide +kernel) ?_
 rintro args h Q ⟨g, p, l, hg, hl, rfl, hq⟩
 refine ⟨by simp [Tryz.f229], ?_⟩
 simp -dsimp only [Vm.G, zA, zB, zC, zD, zE, zF, q229.1]
 refine awp_loop (fun m s h' => ∃ i : Nat, i + m = l.length ∧ h' = h ∧ (∀ j (hj : j < l.length), j < i → p l[j] = false) ∧ s = mk [(0, .sl 4 (l.map lnAv)), (1, .clo g []), (7, .v (.int .i64 l.length)), (8, .v (.int .i64 i))])
   l.length _ (le_mk _ ?_) ⟨0, by omega, rfl, fun j _ hj => by omega, rfl⟩ ?_
 · simp only [Vm.D]
   try simp -dsimp only [Vm.G, zA, zB, zC, zD, zE, zF, q229.1]
   repeat' first | exact .refl _ | exact .nil _ _ _ (by decide) | refine ⟨?_, ?_⟩
 · rintro m s h' ⟨i, hi, rfl, hb, rfl⟩
   simp -dsimp only [Vm.G, zA, zB, zC, zD, zE, zF, q229.1]
   refine cond_intro (fun hcc => ?_) (fun hcc => ?_)
   · have hlt : i < l.length := by have := of_decide_eq_true hcc; omega
     obtain ⟨x, hx⟩ : ∃ x, l[i] = x := ⟨_, rfl⟩
     have hw := hwN i (by omega)
     simp -dsimp only [Vm.G, zA, zB, zC, zD, zE, zF, q229.1]
     refine idx_map lnAv l i hlt ?_
     simp only [hx, lnAv, lnCells]
     simp -dsimp only [Vm.G, zA, zB, zC, zD, zE, zF, q229.1, AV.cells]
     refine call_one (S := askLn p) hg _ GaL.rfl ⟨x, rfl, ?_⟩
     cases hp : p x
     · simp -dsimp only [Vm.G, zA, zB, zC, zD, zE, zF, q229.1]
       refine kept_intro ⟨l.length - (i + 1), by omega, _, le_mk [(0, .sl 4 (l.map lnAv)), (1, .clo g []), (7, .v (.int .i64 l.length)), (8, .v (.int .i64 (i + 1 : Nat)))] ?_, i + 1, by omega, rfl, fun j hj hj2 => ?_, rfl⟩
       · simp only [Vm.D, hw]
         try simp -dsimp only [Vm.G, zA, zB, zC, zD, zE, zF, q229.1, hw]
         repeat' first | exact .refl _ | exact .nil _ _ _ (by decide) | refine ⟨?_, ?_⟩
       · by_cases hji : j = i
         · subst hji; rw [hx]; exact hp
         · exact hb j hj (by omega)
     · simp -dsimp only [Vm.G, zA, zB, zC, zD, zE, zF, q229.1]
       exact hq _ ⟨fun _ => by omega, fun _ => List.any_eq_true.2 ⟨x, hx ▸ zJb hlt, hp⟩⟩
   · have hge : ¬ i < l.length := by have := of_decide_eq_false hcc; omega
     simp -dsimp only [Vm.G, zA, zB, zC, zD, zE, zF, q229.1]
     refine hq _ ⟨fun hm => ?_, fun h0 => by omega⟩
     obtain ⟨x, hx, hp⟩ := List.any_eq_true.1 hm
     obtain ⟨j, hj, rfl⟩ := List.getElem_of_mem hx
     rw [hb j hj (by omega)] at hp; cases hp
def hasSpecLn (T : Tab) : Vm.Spec := fun args h Q => ∃ (g : FuncId) (p : Ln → Bool) (l : List Ln), T g = some (askLn p) ∧ l.length ≤ 9223372036854775807 ∧ args = [.sl 4 (l.map lnAv), .clo g []] ∧ Q (.v (.bool (l.any p))) h
theorem does_hasLn {T : Tab} (hT : Good T) : Does Tryz.prog 184 (hasSpecLn T) := by
 refine dA (good_cons (does_ixLn hT) good_nil) Tryz.func184 rfl (by decide +kernel) ?_
 rintro args h Q ⟨g, p, l, hg, hl, rfl, hq⟩
 refine ⟨by simp [Tryz.f184], ?_⟩
 simp -dsimp only [Vm.G, zA, zB, zC, zD, zE, zF, q184.1]
 refine call_one (S := ixSpecLn T) rfl _ GaL.rfl ⟨g, p, l, hg, hl, rfl, fun i hi => ?_⟩
 have e : decide (i ≥ 0) = l.any p := by
   cases hx : l.any p
   · rw [hx] at hi; exact decide_eq_false fun h0 => by have := hi.2 h0; cases this
   · exact decide_eq_true (hi.1 hx)
 simp -dsimp only [Vm.G, zA, zB, zC, zD, zE, zF, q184.1, e]
 exact hq
def rightA (n : Int) : Bool := decide (1 ≤ n) && decide (n ≤ 9007199254740992)
theorem does_amtRight : Does Tryz.prog 102 (predSpec rightA) := by
 refine dA good_nil Tryz.func102 rfl (by decide +kernel) ?_
 rintro args h Q ⟨n, rfl, hq⟩
 refine ⟨by simp [Tryz.f102], ?_⟩
 unfold rightA at hq
 simp -dsimp only [Vm.G, zA, zB, zC, zD, zE, zF, q102.1]
 cases c1 : decide (1 ≤ n)
 · rw [c1] at hq
   simp -dsimp only [Vm.G, zA, zB, zC, zD, zE, zF, q102.1]
   exact hq
 · rw [c1] at hq
   simp -dsimp only [Vm.G, zA, zB, zC, zD, zE, zF, q102.1]
   exact hq
def wrongL (x : Ln) : Bool := !rightA x.amt
theorem does_wrongL : Does Tryz.prog 183 (askLn wrongL) := by
 refine dA (good_cons does_amtRight good_nil) Tryz.func183 rfl (by decide +kernel) ?_
 rintro args h Q ⟨x, rfl, hq⟩
 refine ⟨by simp [Tryz.f183], ?_⟩
 unfold wrongL at hq
 simp only [lnAv, lnCells]
 simp -dsimp only [Vm.G, zA, zB, zC, zD, zE, zF, q183.1]
 refine call_one (S := predSpec rightA) rfl _ GaL.rfl ⟨x.amt, rfl, ?_⟩
 simp -dsimp only [Vm.G, zA, zB, zC, zD, zE, zF, q183.1]
 exact hq
def wrongT : Tab := tab [(183, askLn wrongL)]
theorem good_wrongT : Good wrongT := good_cons does_wrongL good_nil
def preCheck (l : List Ln) : Int := if l.length = 0 ∨ 6 < l.length ∨ l.any wrongL = true then 1 else 0
def preCheckSpec : Vm.Spec := fun args h Q => ∃ l : List Ln, l.length ≤ 9223372036854775807 ∧ args = [.sl 4 (l.map lnAv)] ∧ Q (.v (.int .i64 (preCheck l))) h
theorem does_preCheck : Does Tryz.prog 111 preCheckSpec := by
 refine dA (good_cons (does_hasLn good_wrongT) good_nil) Tryz.func111 rfl (by decide +kernel) ?_
 rintro args h Q ⟨l, hl, rfl, hq⟩
 refine ⟨by simp [Tryz.f111], ?_⟩
 unfold preCheck at hq
 simp -dsimp only [Vm.G, zA, zB, zC, zD, zE, zF, q111.1]
 cases c0 : ((l.length : Int) == 0)
 · have d0 : ¬ l.length = 0 := by intro e; rw [e] at c0; simp at c0
   simp -dsimp only [Vm.G, zA, zB, zC, zD, zE, zF, q111.1]
   cases c6 : decide ((l.length : Int) > 6)
   · have d6 : ¬ 6 < l.length := by have := of_decide_eq_false c6; omega
     simp -dsimp only [Vm.G, zA, zB, zC, zD, zE, zF, q111.1]
     refine call_one (S := hasSpecLn wrongT) rfl _ GaL.rfl ⟨183, wrongL, l, rfl, hl, rfl, ?_⟩
     cases ca : l.any wrongL
     · rw [ca, if_neg (by simp [d0, d6])] at hq
       simp -dsimp only [Vm.G, zA, zB, zC, zD, zE, zF, q111.1]
       exact hq
     · rw [ca, if_pos (.inr (.inr rfl))] at hq
       simp -dsimp only [Vm.G, zA, zB, zC, zD, zE, zF, q111.1]
       exact hq
   · have d6 : 6 < l.length := by have := of_decide_eq_true c6; omega
     rw [if_pos (.inr (.inl d6))] at hq
     simp -dsimp only [Vm.G, zA, zB, zC, zD, zE, zF, q111.1]
     exact hq
 · have d0 : l.length = 0 := by have : (l.length : Int) = 0 := by simpa using c0
                                omega
   rw [if_pos (.inl d0)] at hq
   simp -dsimp only [Vm.G, zA, zB, zC, zD, zE, zF, q111.1]
   exact hq
structure Dl where
 node : Int
 orig : Int
 liq : Int
 can : Int
def dlCells (x : Dl) : List AV := [.v (.int .i64 x.node), .v (.int .i64 x.orig), .v (.int .i64 x.liq), .v (.int .i64 x.can)]
def dlAv (x : Dl) : AV := .agg (dlCells x)
def Dl.ok (x : Dl) : Prop := I64 x.node ∧ I64 x.orig ∧ I64 x.liq ∧ I64 x.can
structure Dc where
 id : Int
 kind : Int
 year : Int
 frm : Int
 lines : Int
def dcCells (d : Dc) : List AV := [.v (.int .i64 d.id), .v (.int .i64 d.kind), .v (.int .i64 d.year), .v (.int .i64 d.frm), .v (.int .i64 d.lines)]
def Dc.ok (d : Dc) : Prop := I64 d.id ∧ I64 d.kind ∧ I64 d.year ∧ I64 d.frm ∧ I64 d.lines
def dlK (id i : Int) : List UInt8 := keyOf 76 [id, i]
def dlV (x : Dl) : List UInt8 := packOf [x.node, x.orig, x.liq, x.can]
def dcK (id : Int) : List UInt8 := keyOf 68 [id]
def dcV (d : Dc) : List UInt8 := packOf [d.kind, d.year, d.frm, d.lines]
theorem dlK_length (id i : Int) : (dlK id i).length = 9 := by simp [dlK, keyOf, packs, be_length]
theorem dcK_length (id : Int) : (dcK id).length = 5 := by simp [dcK, keyOf, packs, be_length]
theorem dlV_length (x : Dl) : (dlV x).length = 32 := by simp [dlV, packOf, packs, be_length]
theorem dcV_length (d : Dc) : (dcV d).length = 32 := by simp [dcV, packOf, packs, be_length]
theorem right_dl (id i : Int) (x : Dl) : rightKV (dlK id i) (dlV x) = true := by simp [rightKV, dlK_length, dlV_length]
theorem right_dc (id : Int) (d : Dc) : rightKV (dcK id) (dcV d) = true := by simp [rightKV, dcK_length, dcV_length]
theorem does_docLines : Does Tryz.prog 192 (tabSpec 76 2 4) := by
 refine dA good_nil Tryz.func192 rfl (by decide +kernel) ?_
 rintro args h Q ⟨rfl, hq⟩
 refine ⟨by simp [Tryz.f192], ?_⟩
 simp -dsimp only [Vm.G, zA, zB, zC, zD, zE, zF, q192.1]
 exact hq
theorem does_documents : Does Tryz.prog 191 (tabSpec 68 1 4) := by
 refine dA good_nil Tryz.func191 rfl (by decide +kernel) ?_
 rintro args h Q ⟨rfl, hq⟩
 refine ⟨by simp [Tryz.f191], ?_⟩
 simp -dsimp only [Vm.G, zA, zB, zC, zD, zE, zF, q191.1]
 exact hq
def rdlSpec : Vm.Spec := fun args h Q => ∃ (id i : Int) (x : Dl), I64 id ∧ I64 i ∧ x.ok ∧ args = [.v (.int .i64 id), .v (.int .i64 i), dlAv x] ∧ Q (.agg [.sl 1 ((dlK id i).map encB), .sl 1 ((dlV x).map encB)]) h
theorem does_recDl : Does Tryz.prog 176 rdlSpec := by
 refine dA (good_cons does_docLines (good_cons does_pair good_nil)) Tryz.func176 rfl (by decide +kernel) ?_
 rintro args h Q ⟨id, i, x, hid, hi, ⟨o1, o2, o3, o4⟩, rfl, hq⟩
 refine ⟨by simp [Tryz.f176], ?_⟩
 simp only [dlAv, dlCells]
 simp -dsimp only [Vm.G, zA, zB, zC, zD, zE, zF, q176.1]
 refine draw_cont [5] (.take 1 (.take 2 (.take 3 (.take 4 (.take 5 (.take 6 (.take 7 (.take 8 (.take 9 (.take 10 (.alt 0 (.alt 11 (.alt 12 (.alt 13 (.done) .stop) .stop) .stop) (.alt 11 (.alt 0 (.alt 12 (.alt 13 (.done) .stop) .stop) .stop) (.stop))))))))))))) (fun s h2 => h2 = h ∧ s 6 = .box [.sl 1 ((dlK id i).map encB), .sl 1 ((dlV x).map encB)]) (by kernel_rfl) (by kernel_rfl) (by kernel_rfl) (by decide) ?_ ?_
 · have hm : ∀ m ∈ [id, i, x.node, x.orig, x.liq, x.can], I64 m := fun m hm => by
     simp only [zOa, zPb, or_false] at hm
     rcases hm with rfl | rfl | rfl | rfl | rfl | rfl <;> assumption
   have e1 : keyOf 76 (([id, i, x.node, x.orig, x.liq, x.can] : List Int).take 2) = dlK id i := rfl
   have e2 : packOf (([id, i, x.node, x.orig, x.liq, x.can] : List Int).drop 2) = dlV x := rfl
   repeat' first
     | with_reducible exact True.intro
     | simp -dsimp only [Vm.G, zA, zB, zC, zD, zE, zF, q176.1, e1, e2]
     | refine call_one (S := tabSpec 76 2 4) rfl _ GaL.rfl ⟨rfl, ?_⟩
     | refine call_one (S := pairSpec) rfl _ GaL.rfl ⟨76, 2, 4, [id, i, x.node, x.orig, x.liq, x.can], by simp, by simp, hm, rfl, ?_⟩
     | refine bs_intro zr3 (by decide) (by decide) rfl rfl (by simp [solid, AV.cells]) ?_
     | refine tree_alt ?_ ?_
     | repeat' first | rfl | exact True.intro | refine And.intro ?_ ?_
 · rintro s h2 ⟨rfl, e6⟩
   simp -dsimp only [Vm.G, zA, zB, zC, zD, zE, zF, q176.1, e6]
   exact hq
def rdcSpec : Vm.Spec := fun args h Q => ∃ d : Dc, d.ok ∧ args = [.agg (dcCells d)] ∧ Q (.agg [.sl 1 ((dcK d.id).map encB), .sl 1 ((dcV d).map encB)]) h
theorem does_recDc : Does Tryz.prog 186 rdcSpec := by
 refine dA (good_cons does_documents (good_cons does_pair good_nil)) Tryz.func186 rfl (by decide +kernel) ?_
 rintro args h Q ⟨d, ⟨o1, o2, o3, o4, o5⟩, rfl, hq⟩
 refine ⟨by simp [Tryz.f186], ?_⟩
 simp only [dcCells]
 simp -dsimp only [Vm.G, zA, zB, zC, zD, zE, zF, q186.1]
 refine draw_cont [1] (.take 1 (.take 2 (.take 3 (.take 4 (.take 5 (.take 6 (.take 7 (.take 8 (.take 9 (.take 10 (.alt 0 (.alt 11 (.alt 12 (.alt 13 (.done) .stop) .stop) .stop) (.alt 11 (.alt 0 (.alt 12 (.alt 13 (.done) .stop) .stop) .stop) (.stop))))))))))))) (fun s h2 => h2 = h ∧ s 2 = .box [.sl 1 ((dcK d.id).map encB), .sl 1 ((dcV d).map encB)]) (by kernel_rfl) (by kernel_rfl) (by kernel_rfl) (by decide) ?_ ?_
 · have hm : ∀ m ∈ [d.id, d.kind, d.year, d.frm, d.lines], I64 m := fun m hm => by
     simp only [zOa, zPb, or_false] at hm
     rcases hm with rfl | rfl | rfl | rfl | rfl <;> assumption
   have e1 : keyOf 68 (([d.id, d.kind, d.year, d.frm, d.lines] : List Int).take 1) = dcK d.id := rfl
   have e2 : packOf (([d.id, d.kind, d.year, d.frm, d.lines] : List Int).drop 1) = dcV d := rfl
   repeat' first
     | with_reducible exact True.intro
     | simp -dsimp only [Vm.G, zA, zB, zC, zD, zE, zF, q186.1, e1, e2]
     | refine call_one (S := tabSpec 68 1 4) rfl _ GaL.rfl ⟨rfl, ?_⟩
     | refine call_one (S := pairSpec) rfl _ GaL.rfl ⟨68, 1, 4, [d.id, d.kind, d.year, d.frm, d.lines], by simp, by simp, hm, rfl, ?_⟩
     | refine bs_intro zr3 (by decide) (by decide) rfl rfl (by simp [solid, AV.cells]) ?_
     | refine tree_alt ?_ ?_
     | repeat' first | rfl | exact True.intro | refine And.intro ?_ ?_
 · rintro s h2 ⟨rfl, e2⟩
   simp -dsimp only [Vm.G, zA, zB, zC, zD, zE, zF, q186.1, e2]
   exact hq
def dsetSpec : Vm.Spec := fun args h Q => ∃ (V : VId) (f : Fun) (k v : List UInt8), args = [.agg [.ptr V.iv 0], .agg [.sl 1 (k.map encB), .sl 1 (v.map encB)]] ∧ rightKV k v = true ∧ isView h V f ∧ ∀ h', isView h' V (upd f k (some v)) → Same h h' [V.ic] → Q (.v (.int .i64 0)) h'
theorem does_dset : Does Tryz.prog 175 dsetSpec := by
 refine dA (good_cons does_vput good_nil) Tryz.func175 rfl (by decide +kernel) ?_
 rintro args h Q ⟨V, f, k, v, rfl, hr, hV, hq⟩
 refine ⟨by simp [Tryz.f175], ?_⟩
 simp -dsimp only [Vm.G, zA, zB, zC, zD, zE, zF, q175.1]
 refine call_one (S := vputSpec) rfl _ GaL.rfl ⟨V, f, k, v, rfl, hV, fun _ h' g1 g2 => ?_, fun hc => by rw [hr] at hc; cases hc⟩
 simp -dsimp only [Vm.G, zA, zB, zC, zD, zE, zF, q175.1]
 exact hq h' g1 g2
def putLines (id : Int) : Nat → List Dl → Fun → Fun
 | _, [], f => f
 | i, x :: r, f => putLines id (i + 1) r (upd f (dlK id i) (some (dlV x)))
def docsF (f : Fun) (id : Int) (d : Dc) (l : List Dl) : Fun := upd (putLines id 0 l (upd f (seqKey 2) (some (be 8 id)))) (dcK id) (some (dcV { d with id := id, lines := l.length }))
def docsPut (f : Fun) (d : Dc) (l : List Dl) : Fun × Int × Int :=
 if l.length = 0 ∨ 6 < l.length then (f, 0, 1)
 else if readOf f (seqKey 2) < 0 ∨ 4294967294 < readOf f (seqKey 2) then (f, 0, 9)
 else (docsF f (readOf f (seqKey 2) + 1) d l, readOf f (seqKey 2) + 1, 0)
def docsPutSpec : Vm.Spec := fun args h Q => ∃ (V : VId) (f : Fun) (d : Dc) (l : List Dl), d.ok ∧ (∀ x ∈ l, x.ok) ∧ args = [.ptr V.iv 0, .agg (dcCells d), .sl 4 (l.map dlAv)] ∧ isView h V f ∧
 ∀ h', isView h' V (docsPut f d l).1 → Same h h' [V.ic] → Q (.tup [.v (.int .i64 (docsPut f d l).2.1), .v (.int .i64 (docsPut f d l).2.2)]) h'
theorem does_docsPut : Does Tryz.prog 114 docsPutSpec := by
 refine dA (good_cons does_seqNext (good_cons does_recDl (good_cons does_dset (good_cons does_recDc good_nil)))) Tryz.func114 rfl (by decide +kernel) ?_
 rintro args h Q ⟨V, f, d, l, hd, hx, rfl, hV, hq⟩
 refine ⟨by simp [Tryz.f114], ?_⟩
 unfold docsPut at hq
 simp only [dcCells]
 simp -dsimp only [Vm.G, zA, zB, zC, zD, zE, zF, q114.1]
 cases c0 : ((l.length : Int) == 0)
 · have d0 : ¬ l.length = 0 := by intro e; rw [e] at c0; simp at c0
   simp -dsimp only [Vm.G, zA, zB, zC, zD, zE, zF, q114.1]
   cases c6 : decide ((l.length : Int) > 6)
   · have d6 : ¬ 6 < l.length := by have := of_decide_eq_false c6; omega
     have hr := readOf_range f (seqKey 2)
     simp only [if_neg (show ¬ (l.length = 0 ∨ 6 < l.length) by omega)] at hq
     simp -dsimp only [Vm.G, zA, zB, zC, zD, zE, zF, q114.1]
     refine call_one (S := seqNextSpec) rfl _ GaL.rfl ⟨V, f, 2, rfl, hV, fun hr => ?_, fun hn h1 g1 g2 => ?_⟩
     · simp only [if_pos hr] at hq
       simp -dsimp only [Vm.G, zA, zB, zC, zD, zE, zF, q114.1]
       exact hq h hV (.refl _ _)
     · simp only [if_neg hn] at hq
       unfold docsF at hq
       have hidr : I64 (readOf f (seqKey 2) + 1) := by unfold I64 at hr ⊢; omega
       generalize readOf f (seqKey 2) + 1 = id at hq g1 hidr ⊢
       generalize upd f (seqKey 2) (some (be 8 id)) = f1 at hq g1
       simp -dsimp only [Vm.G, zA, zB, zC, zD, zE, zF, q114.1]
       refine awp_loop (fun m s h' => ∃ (i : Nat) (g : Fun) (s10 : AV), i + m = l.length ∧ isView h' V g ∧ Same h h' [V.ic] ∧ putLines id i (l.drop i) g = putLines id 0 l f1 ∧ (s10 = .box [.ptr V.iv 0] ∨ s10 = .eptr [.ptr V.iv 0]) ∧ s = mk [(2, .sl 4 (l.map dlAv)), (4, .box [.v (.int .i64 d.id), .v (.int .i64 d.kind), .v (.int .i64 d.year), .v (.int .i64 d.frm), .v (.int .i64 d.lines)]), (8, .v (.int .i64 id)), (10, s10), (33, .sl 4 (l.map dlAv)), (34, .v (.int .i64 l.length)), (35, .v (.int .i64 (i : Nat)))])
         l.length _ (le_mk _ ?_) ⟨0, f1, .box [.ptr V.iv 0], by omega, g1, g2, rfl, .inl rfl, rfl⟩ ?_
       · simp only [Vm.D]
         try simp -dsimp only [Vm.G, zA, zB, zC, zD, zE, zF, q114.1]
         repeat' first | exact .refl _ | exact .nil _ _ _ (by decide) | refine ⟨?_, ?_⟩
       · clear g1 g2 hV
         rintro m s h' ⟨i, g, s10, hi, hV, hsm, hp, h10, rfl⟩
         simp -dsimp only [Vm.G, zA, zB, zC, zD, zE, zF, q114.1]
         refine cond_intro (fun hcc => ?_) (fun hcc => ?_)
         · have hlt : i < l.length := by have := of_decide_eq_true hcc; omega
           have hw := hwN i (by omega)
           have hok := hx l[i] (zJb hlt)
           rw [List.drop_eq_getElem_cons hlt] at hp
           simp -dsimp only [Vm.G, zA, zB, zC, zD, zE, zF, q114.1]
           refine idx_map dlAv l i hlt ?_
           generalize l[i] = x at hok hp
           have hii : I64 (i : Int) := by unfold I64; omega
           simp only [dlAv, dlCells]
           simp -dsimp only [Vm.G, zA, zB, zC, zD, zE, zF, q114.1, AV.cells]
           rcases h10 with rfl | rfl
           · refine draw_cont [10, 12] (.take 0 (.take 1 (.take 2 (.take 3 (.alt 4 (.alt 5 (.alt 6 (.done) .stop) .stop) .stop))))) (fun s h2 => isView h2 V (upd g (dlK id i) (some (dlV x))) ∧ Same h' h2 [V.ic] ∧ s 13 = .v (.int .i64 0) ∧ s 2 = .sl 4 (l.map dlAv) ∧ s 4 = .box [.v (.int .i64 d.id), .v (.int .i64 d.kind), .v (.int .i64 d.year), .v (.int .i64 d.frm), .v (.int .i64 d.lines)] ∧ s 8 = .v (.int .i64 id) ∧ s 10 = .eptr [.ptr V.iv 0] ∧ s 33 = .sl 4 (l.map dlAv) ∧ s 34 = .v (.int .i64 l.length) ∧ s 35 = .v (.int .i64 i)) (by kernel_rfl) (by kernel_rfl) (by kernel_rfl) (by decide) ?_ ?_
             · simp -dsimp only [Vm.G, zA, zB, zC, zD, zE, zF, q114.1]
               refine call_one (S := rdlSpec) rfl _ GaL.rfl ⟨id, i, x, hidr, hii, hok, rfl, ?_⟩
               simp -dsimp only [Vm.G, zA, zB, zC, zD, zE, zF, q114.1]
               refine call_one (S := dsetSpec) rfl _ GaL.rfl ⟨V, g, dlK id i, dlV x, rfl, right_dl id i x, hV, fun h2 g1 g2 => ?_⟩
               simp -dsimp only [Vm.G, zA, zB, zC, zD, zE, zF, q114.1]
               refine ⟨g1, g2, ?_⟩
               repeat' first | rfl | exact True.intro | refine And.intro ?_ ?_
             · rintro s h2 ⟨g1, g2, e13, e2, e4, e8, e10, e33, e34, e35⟩
               simp -dsimp only [Vm.G, zA, zB, zC, zD, zE, zF, q114.1, e13, e2, e4, e8, e10, e33, e34, e35]
               refine kept_intro ⟨l.length - (i + 1), by omega, _, le_mk [(2, .sl 4 (l.map dlAv)), (4, .box [.v (.int .i64 d.id), .v (.int .i64 d.kind), .v (.int .i64 d.year), .v (.int .i64 d.frm), .v (.int .i64 d.lines)]), (8, .v (.int .i64 id)), (10, .eptr [.ptr V.iv 0]), (33, .sl 4 (l.map dlAv)), (34, .v (.int .i64 l.length)), (35, .v (.int .i64 (i + 1 : Nat)))] ?_, i + 1, _, _, by omega, g1, hsm.trans g2, hp, .inr rfl, rfl⟩
               simp only [Vm.D, hw, e2, e4, e8, e10, e33, e34, e35]
               try simp -dsimp only [Vm.G, zA, zB, zC, zD, zE, zF, q114.1, hw, e2, e4, e8, e10, e33, e34, e35]
               repeat' first | exact .refl _ | exact .nil _ _ _ (by decide) | refine ⟨?_, ?_⟩
           · refine draw_cont [12] (.take 0 (.take 1 (.take 2 (.take 3 (.alt 4 (.alt 5 (.alt 6 (.done) .stop) .stop) .stop))))) (fun s h2 => isView h2 V (upd g (dlK id i) (some (dlV x))) ∧ Same h' h2 [V.ic] ∧ s 13 = .v (.int .i64 0) ∧ s 2 = .sl 4 (l.map dlAv) ∧ s 4 = .box [.v (.int .i64 d.id), .v (.int .i64 d.kind), .v (.int .i64 d.year), .v (.int .i64 d.frm), .v (.int .i64 d.lines)] ∧ s 8 = .v (.int .i64 id) ∧ s 10 = .eptr [.ptr V.iv 0] ∧ s 33 = .sl 4 (l.map dlAv) ∧ s 34 = .v (.int .i64 l.length) ∧ s 35 = .v (.int .i64 i)) (by kernel_rfl) (by kernel_rfl) (by kernel_rfl) (by decide) ?_ ?_
             · simp -dsimp only [Vm.G, zA, zB, zC, zD, zE, zF, q114.1]
               refine call_one (S := rdlSpec) rfl _ GaL.rfl ⟨id, i, x, hidr, hii, hok, rfl, ?_⟩
               simp -dsimp only [Vm.G, zA, zB, zC, zD, zE, zF, q114.1]
               refine call_one (S := dsetSpec) rfl _ GaL.rfl ⟨V, g, dlK id i, dlV x, rfl, right_dl id i x, hV, fun h2 g1 g2 => ?_⟩
               simp -dsimp only [Vm.G, zA, zB, zC, zD, zE, zF, q114.1]
               refine ⟨g1, g2, ?_⟩
               repeat' first | rfl | exact True.intro | refine And.intro ?_ ?_
             · rintro s h2 ⟨g1, g2, e13, e2, e4, e8, e10, e33, e34, e35⟩
               simp -dsimp only [Vm.G, zA, zB, zC, zD, zE, zF, q114.1, e13, e2, e4, e8, e10, e33, e34, e35]
               refine kept_intro ⟨l.length - (i + 1), by omega, _, le_mk [(2, .sl 4 (l.map dlAv)), (4, .box [.v (.int .i64 d.id), .v (.int .i64 d.kind), .v (.int .i64 d.year), .v (.int .i64 d.frm), .v (.int .i64 d.lines)]), (8, .v (.int .i64 id)), (10, .eptr [.ptr V.iv 0]), (33, .sl 4 (l.map dlAv)), (34, .v (.int .i64 l.length)), (35, .v (.int .i64 (i + 1 : Nat)))] ?_, i + 1, _, _, by omega, g1, hsm.trans g2, hp, .inr rfl, rfl⟩
               simp only [Vm.D, hw, e2, e4, e8, e10, e33, e34, e35]
               try simp -dsimp only [Vm.G, zA, zB, zC, zD, zE, zF, q114.1, hw, e2, e4, e8, e10, e33, e34, e35]
               repeat' first | exact .refl _ | exact .nil _ _ _ (by decide) | refine ⟨?_, ?_⟩
         · have hge : ¬ i < l.length := by have := of_decide_eq_false hcc; omega
           rw [List.drop_of_length_le (by omega)] at hp
           have hp : g = putLines id 0 l f1 := hp
           rw [← hp] at hq
           obtain ⟨o1, o2, o3, o4, o5⟩ := hd
           have hdok : ({ d with id := id, lines := (l.length : Int) } : Dc).ok := ⟨hidr, o2, o3, o4, by unfold I64; show -9223372036854775808 ≤ (l.length : Int) ∧ (l.length : Int) ≤ _; omega⟩
           simp -dsimp only [Vm.G, zA, zB, zC, zD, zE, zF, q114.1]
           have fin : ∀ {s : Slots}, True := fun {_} => trivial
           rcases h10 with rfl | rfl
           · refine draw_cont [10, 4] (.take 0 (.take 1 (.alt 2 (.alt 3 (.alt 4 (.done) .stop) .stop) .stop))) (fun s h2 => isView h2 V (upd g (dcK id) (some (dcV { d with id := id, lines := l.length }))) ∧ Same h' h2 [V.ic] ∧ s 14 = .v (.int .i64 0) ∧ s 8 = .v (.int .i64 id)) (by kernel_rfl) (by kernel_rfl) (by kernel_rfl) (by decide) ?_ ?_
             · simp -dsimp only [Vm.G, zA, zB, zC, zD, zE, zF, q114.1]
               refine call_one (S := rdcSpec) rfl _ GaL.rfl ⟨{ d with id := id, lines := l.length }, hdok, rfl, ?_⟩
               simp -dsimp only [Vm.G, zA, zB, zC, zD, zE, zF, q114.1]
               refine call_one (S := dsetSpec) rfl _ GaL.rfl ⟨V, g, dcK id, dcV { d with id := id, lines := l.length }, rfl, right_dc id _, hV, fun h2 g1 g2 => ?_⟩
               simp -dsimp only [Vm.G, zA, zB, zC, zD, zE, zF, q114.1]
               refine ⟨g1, g2, ?_⟩
               repeat' first | rfl | exact True.intro | refine And.intro ?_ ?_
             · rintro s h2 ⟨g1, g2, e14, e8⟩
               simp -dsimp only [Vm.G, zA, zB, zC, zD, zE, zF, q114.1, e14, e8]
               exact hq h2 g1 (hsm.trans g2)
           · refine draw_cont [4] (.take 0 (.take 1 (.alt 2 (.alt 3 (.alt 4 (.done) .stop) .stop) .stop))) (fun s h2 => isView h2 V (upd g (dcK id) (some (dcV { d with id := id, lines := l.length }))) ∧ Same h' h2 [V.ic] ∧ s 14 = .v (.int .i64 0) ∧ s 8 = .v (.int .i64 id)) (by kernel_rfl) (by kernel_rfl) (by kernel_rfl) (by decide) ?_ ?_
             · simp -dsimp only [Vm.G, zA, zB, zC, zD, zE, zF, q114.1]
               refine call_one (S := rdcSpec) rfl _ GaL.rfl ⟨{ d with id := id, lines := l.length }, hdok, rfl, ?_⟩
               simp -dsimp only [Vm.G, zA, zB, zC, zD, zE, zF, q114.1]
               refine call_one (S := dsetSpec) rfl _ GaL.rfl ⟨V, g, dcK id, dcV { d with id := id, lines := l.length }, rfl, right_dc id _, hV, fun h2 g1 g2 => ?_⟩
               simp -dsimp only [Vm.G, zA, zB, zC, zD, zE, zF, q114.1]
               refine ⟨g1, g2, ?_⟩
               repeat' first | rfl | exact True.intro | refine And.intro ?_ ?_
             · rintro s h2 ⟨g1, g2, e14, e8⟩
               simp -dsimp only [Vm.G, zA, zB, zC, zD, zE, zF, q114.1, e14, e8]
               exact hq h2 g1 (hsm.trans g2)
   · have d6 : 6 < l.length := by have := of_decide_eq_true c6; omega
     simp only [if_pos (show l.length = 0 ∨ 6 < l.length from .inr d6)] at hq
     simp -dsimp only [Vm.G, zA, zB, zC, zD, zE, zF, q114.1]
     exact hq h hV (.refl _ _)
 · have d0 : l.length = 0 := by
     have : (l.length : Int) = 0 := by simpa using c0
     omega
   simp only [if_pos (show l.length = 0 ∨ 6 < l.length from .inl d0)] at hq
   simp -dsimp only [Vm.G, zA, zB, zC, zD, zE, zF, q114.1]
   exact hq h hV (.refl _ _)
def ownL (l : List Ln) : List Dl := l.map fun x => ⟨x.node, x.amt, 0, 0⟩
def linesSpec : Vm.Spec := fun args h Q => ∃ l : List Ln, l.length ≤ 1073741824 ∧ args = [.sl 4 (l.map lnAv)] ∧ Q (.own true 48 4 ((ownL l).map dlAv)) h
theorem does_preLines : Does Tryz.prog 112 linesSpec := by
 refine dA good_nil Tryz.func112 rfl (by decide +kernel) ?_
 rintro args h Q ⟨l, hl, rfl, hq⟩
 refine ⟨by simp [Tryz.f112], ?_⟩
 simp -dsimp only [Vm.G, zA, zB, zC, zD, zE, zF, q112.1]
 refine awp_loop (fun m s h' => ∃ i : Nat, i + m = l.length ∧ h' = h ∧ s = mk [(3, .own true 48 4 ((ownL (l.take i)).map dlAv)), (6, .sl 4 (l.map lnAv)), (7, .v (.int .i64 l.length)), (8, .v (.int .i64 i))])
   l.length _ (le_mk _ ?_) ⟨0, by omega, rfl, rfl⟩ ?_
 · simp only [Vm.D]
   try simp -dsimp only [Vm.G, zA, zB, zC, zD, zE, zF, q112.1]
   repeat' first | exact .refl _ | exact .nil _ _ _ (by decide) | refine ⟨?_, ?_⟩
 · rintro m s h' ⟨i, hi, rfl, rfl⟩
   simp -dsimp only [Vm.G, zA, zB, zC, zD, zE, zF, q112.1]
   refine cond_intro (fun hcc => ?_) (fun hcc => ?_)
   · have hlt : i < l.length := by have := of_decide_eq_true hcc; omega
     have hw := hwN i (by omega)
     have est : ownL (l.take (i + 1)) = ownL (l.take i) ++ [⟨l[i].node, l[i].amt, 0, 0⟩] := by
       unfold ownL
       rw [zSa hlt, zQa]; rfl
     have hol : (ownL (l.take i)).length ≤ i := by unfold ownL; rw [zIa, zUa]; omega
     simp -dsimp only [Vm.G, zA, zB, zC, zD, zE, zF, q112.1]
     refine idx_map lnAv l i hlt ?_
     generalize l[i] = x at est
     simp only [lnAv, lnCells]
     simp -dsimp only [Vm.G, zA, zB, zC, zD, zE, zF, q112.1, AV.cells]
     refine bs_intro zr48 (by decide) (by decide) rfl rfl (by simp [solid, AV.cells]) ?_
     simp -dsimp only [Vm.G, zA, zB, zC, zD, zE, zF, q112.1]
     refine app_sl Tryz.underlying43 (by simp [AV.cells]) (by simp only [zIa, zKa, zMa]; omega) ?_
     simp -dsimp only [Vm.G, zA, zB, zC, zD, zE, zF, q112.1]
     refine kept_intro ⟨l.length - (i + 1), by omega, _, le_mk [(3, .own true 48 4 ((ownL (l.take (i + 1))).map dlAv)), (6, .sl 4 (l.map lnAv)), (7, .v (.int .i64 l.length)), (8, .v (.int .i64 (i + 1 : Nat)))] ?_, i + 1, by omega, rfl, rfl⟩
     simp only [Vm.D, hw, est, zQa, zVa, zIb, dlAv, dlCells]
     try simp -dsimp only [Vm.G, zA, zB, zC, zD, zE, zF, q112.1, hw, est, zQa, zVa, zIb, dlAv, dlCells]
     repeat' first | exact .refl _ | exact .nil _ _ _ (by decide) | refine ⟨?_, ?_⟩
   · have hge : ¬ i < l.length := by have := of_decide_eq_false hcc; omega
     simp -dsimp only [Vm.G, zA, zB, zC, zD, zE, zF, q112.1]
     rw [zJa (by omega)]
     exact hq
def chargeL (year : Int) : List Dl → Fun → Bool → Fun × Bool × Int
 | [], f, w => (f, w, 0)
 | x :: r, f, w => if (chargeOf f year x.node ⟨x.orig, 0, 0⟩).2.2 ≠ 0 then ((chargeOf f year x.node ⟨x.orig, 0, 0⟩).1, false, (chargeOf f year x.node ⟨x.orig, 0, 0⟩).2.2)
   else chargeL year r (chargeOf f year x.node ⟨x.orig, 0, 0⟩).1 (w || (chargeOf f year x.node ⟨x.orig, 0, 0⟩).2.1)
theorem chargeL_cons (year : Int) (x : Dl) (r : List Dl) (f : Fun) (w : Bool) : chargeL year (x :: r) f w = if (chargeOf f year x.node ⟨x.orig, 0, 0⟩).2.2 ≠ 0 then ((chargeOf f year x.node ⟨x.orig, 0, 0⟩).1, false, (chargeOf f year x.node ⟨x.orig, 0, 0⟩).2.2)
   else chargeL year r (chargeOf f year x.node ⟨x.orig, 0, 0⟩).1 (w || (chargeOf f year x.node ⟨x.orig, 0, 0⟩).2.1) := rfl
attribute [local irreducible] chargeOf chargeL docsPut
def chargeLSpec : Vm.Spec := fun args h Q => ∃ (V : VId) (f : Fun) (year : Int) (l : List Dl), l.length ≤ 1073741824 ∧ args = [.agg [.ptr V.iv 0, .v (.int .i64 year)], .sl 4 (l.map dlAv)] ∧ isView h V f ∧
 ∀ h', isView h' V (chargeL year l f false).1 → Same h h' [V.ic] → Q (.tup [.v (.bool (chargeL year l f false).2.1), .v (.int .i64 (chargeL year l f false).2.2)]) h'
theorem does_chargeL : Does Tryz.prog 113 chargeLSpec := by
 refine dA (good_cons does_charge good_nil) Tryz.func113 rfl (by decide +kernel) ?_
 rintro args h Q ⟨V, f, year, l, hl, rfl, hV, hq⟩
 refine ⟨by simp [Tryz.f113], ?_⟩
 simp -dsimp only [Vm.G, zA, zB, zC, zD, zE, zF, q113.1]
 refine awp_loop (fun m s h' => ∃ (i : Nat) (g : Fun) (w : Bool), i + m = l.length ∧ isView h' V g ∧ Same h h' [V.ic] ∧ chargeL year (l.drop i) g w = chargeL year l f false ∧ s = mk [(2, .box [.ptr V.iv 0, .v (.int .i64 year)]), (6, .v (.bool w)), (11, .sl 4 (l.map dlAv)), (12, .v (.int .i64 l.length)), (13, .v (.int .i64 (i : Nat)))])
   l.length _ (le_mk _ ?_) ⟨0, f, false, by omega, hV, .refl _ _, rfl, rfl⟩ ?_
 · simp only [Vm.D]
   try simp -dsimp only [Vm.G, zA, zB, zC, zD, zE, zF, q113.1]
   repeat' first | exact .refl _ | exact .nil _ _ _ (by decide) | refine ⟨?_, ?_⟩
 · clear hV
   rintro m s h' ⟨i, g, w, hi, hV, hsm, hp, rfl⟩
   simp -dsimp only [Vm.G, zA, zB, zC, zD, zE, zF, q113.1]
   refine cond_intro (fun hcc => ?_) (fun hcc => ?_)
   · have hlt : i < l.length := by have := of_decide_eq_true hcc; omega
     have hw := hwN i (by omega)
     rw [List.drop_eq_getElem_cons hlt] at hp
     simp -dsimp only [Vm.G, zA, zB, zC, zD, zE, zF, q113.1]
     refine idx_map dlAv l i hlt ?_
     generalize l[i] = x at hp
     simp only [dlAv, dlCells]
     simp -dsimp only [Vm.G, zA, zB, zC, zD, zE, zF, q113.1, AV.cells]
     refine call_one (S := chargeSpec) rfl _ GaL.rfl ⟨V, g, year, x.node, ⟨x.orig, 0, 0⟩, rfl, hV, fun h2 g1 g2 => ?_⟩
     rw [chargeL_cons] at hp
     generalize chargeOf g year x.node ⟨x.orig, 0, 0⟩ = q at hp g1 ⊢
     obtain ⟨qf, qw, qe⟩ := q
     simp only at hp g1 ⊢
     simp -dsimp only [Vm.G, zA, zB, zC, zD, zE, zF, q113.1]
     cases c1 : (qe != 0)
     · have d1 : ¬ qe ≠ 0 := by simpa using c1
       rw [if_neg d1] at hp
       cases w
       · simp -dsimp only [Vm.G, zA, zB, zC, zD, zE, zF, q113.1]
         refine kept_intro ⟨l.length - (i + 1), by omega, _, le_mk [(2, .box [.ptr V.iv 0, .v (.int .i64 year)]), (6, .v (.bool qw)), (11, .sl 4 (l.map dlAv)), (12, .v (.int .i64 l.length)), (13, .v (.int .i64 (i + 1 : Nat)))] ?_, i + 1, qf, qw, by omega, g1, hsm.trans g2, by simpa using hp, rfl⟩
         simp only [Vm.D, hw]
         try simp -dsimp only [Vm.G, zA, zB, zC, zD, zE, zF, q113.1, hw]
         repeat' first | exact .refl _ | exact .nil _ _ _ (by decide) | refine ⟨?_, ?_⟩
       · simp -dsimp only [Vm.G, zA, zB, zC, zD, zE, zF, q113.1]
         refine kept_intro ⟨l.length - (i + 1), by omega, _, le_mk [(2, .box [.ptr V.iv 0, .v (.int .i64 year)]), (6, .v (.bool true)), (11, .sl 4 (l.map dlAv)), (12, .v (.int .i64 l.length)), (13, .v (.int .i64 (i + 1 : Nat)))] ?_, i + 1, qf, true, by omega, g1, hsm.trans g2, by simpa using hp, rfl⟩
         simp only [Vm.D, hw]
         try simp -dsimp only [Vm.G, zA, zB, zC, zD, zE, zF, q113.1, hw]
         repeat' first | exact .refl _ | exact .nil _ _ _ (by decide) | refine ⟨?_, ?_⟩
     · have d1 : qe ≠ 0 := by simpa using c1
       rw [if_pos d1] at hp
       rw [← hp] at hq
       simp -dsimp only [Vm.G, zA, zB, zC, zD, zE, zF, q113.1]
       exact hq h2 g1 (hsm.trans g2)
   · have hge : ¬ i < l.length := by have := of_decide_eq_false hcc; omega
     rw [List.drop_of_length_le (by omega)] at hp
     have hp : (g, w, (0 : Int)) = chargeL year l f false := by rw [← hp]; simp only [chargeL]
     rw [← hp] at hq
     simp -dsimp only [Vm.G, zA, zB, zC, zD, zE, zF, q113.1]
     exact hq h' hV hsm
def preNew (f : Fun) (year : Int) (l : List Ln) : Fun × Int × Bool × Int :=
 if checkY f year ≠ 0 then (f, 0, false, checkY f year)
 else if preCheck l ≠ 0 then (f, 0, false, preCheck l)
 else if (chargeL year (ownL l) f false).2.2 ≠ 0 then ((chargeL year (ownL l) f false).1, 0, false, (chargeL year (ownL l) f false).2.2)
 else ((docsPut (chargeL year (ownL l) f false).1 ⟨0, 1, year, 0, 0⟩ (ownL l)).1, (docsPut (chargeL year (ownL l) f false).1 ⟨0, 1, year, 0, 0⟩ (ownL l)).2.1,
   (chargeL year (ownL l) f false).2.1 && ((docsPut (chargeL year (ownL l) f false).1 ⟨0, 1, year, 0, 0⟩ (ownL l)).2.2 == 0), (docsPut (chargeL year (ownL l) f false).1 ⟨0, 1, year, 0, 0⟩ (ownL l)).2.2)
def Ln.ok (x : Ln) : Prop := I64 x.fund ∧ I64 x.obj ∧ I64 x.node ∧ I64 x.amt
theorem ownL_ok {l : List Ln} (h : ∀ x ∈ l, x.ok) : ∀ x ∈ ownL l, x.ok := fun x hx => by
 obtain ⟨y, hy, rfl⟩ := zOb.1 hx
 obtain ⟨-, -, h3, h4⟩ := h y hy
 exact ⟨h3, h4, by show I64 0; unfold I64; omega, by show I64 0; unfold I64; omega⟩
def preNewSpec : Vm.Spec := fun args h Q => ∃ (V : VId) (f : Fun) (year : Int) (l : List Ln), I64 year ∧ l.length ≤ 1073741824 ∧ (∀ x ∈ l, x.ok) ∧ args = [.ptr V.iv 0, .v (.int .i64 year), .sl 4 (l.map lnAv)] ∧ isView h V f ∧
 ∀ h', isView h' V (preNew f year l).1 → Same h h' [V.ic] → Q (.tup [.v (.int .i64 (preNew f year l).2.1), .v (.bool (preNew f year l).2.2.1), .v (.int .i64 (preNew f year l).2.2.2)]) h'
theorem does_preNew : Does Tryz.prog 42 preNewSpec := by
 refine dA (good_cons does_yCheck (good_cons does_preCheck (good_cons does_preLines (good_cons does_chargeL (good_cons does_docsPut good_nil))))) Tryz.func42 rfl (by decide +kernel) ?_
 rintro args h Q ⟨V, f, year, l, hy, hl, hok, rfl, hV, hq⟩
 refine ⟨by simp [Tryz.f42], ?_⟩
 unfold preNew at hq
 simp -dsimp only [Vm.G, zA, zB, zC, zD, zE, zF, q42.1]
 refine call_one (S := yCheckSpec) rfl _ GaL.rfl ⟨V, f, year, rfl, hV, ?_⟩
 generalize checkY f year = e at hq ⊢
 simp -dsimp only [Vm.G, zA, zB, zC, zD, zE, zF, q42.1]
 cases c1 : (e != 0)
 · have d1 : ¬ e ≠ 0 := by simpa using c1
   simp only [if_neg d1] at hq
   simp -dsimp only [Vm.G, zA, zB, zC, zD, zE, zF, q42.1]
   refine call_one (S := preCheckSpec) rfl _ GaL.rfl ⟨l, by omega, rfl, ?_⟩
   generalize preCheck l = e2 at hq ⊢
   simp -dsimp only [Vm.G, zA, zB, zC, zD, zE, zF, q42.1]
   cases c2 : (e2 != 0)
   · have d2 : ¬ e2 ≠ 0 := by simpa using c2
     simp only [if_neg d2] at hq
     simp -dsimp only [Vm.G, zA, zB, zC, zD, zE, zF, q42.1]
     refine call_one (S := linesSpec) rfl _ GaL.rfl ⟨l, hl, rfl, ?_⟩
     have hol : (ownL l).length = l.length := by unfold ownL; rw [zIa]
     have hook := ownL_ok hok
     simp -dsimp only [Vm.G, zA, zB, zC, zD, zE, zF, q42.1]
     refine call_one (S := chargeLSpec) rfl _ GaL.rfl ⟨V, f, year, ownL l, by omega, rfl, hV, fun h1 g1 g2 => ?_⟩
     obtain ⟨q, hqe⟩ : ∃ q, q = chargeL year (ownL l) f false := ⟨_, rfl⟩
     rw [← hqe] at hq g1 ⊢
     clear hqe
     obtain ⟨qf, qw, qe⟩ := q
     simp only at hq g1 ⊢
     simp -dsimp only [Vm.G, zA, zB, zC, zD, zE, zF, q42.1]
     cases c3 : (qe != 0)
     · have d3 : ¬ qe ≠ 0 := by simpa using c3
       simp only [if_neg d3] at hq
       have z0 : I64 0 := by unfold I64; omega
       have z1 : I64 1 := by unfold I64; omega
       simp -dsimp only [Vm.G, zA, zB, zC, zD, zE, zF, q42.1]
       refine call_one (S := docsPutSpec) rfl _ GaL.rfl ⟨V, qf, ⟨0, 1, year, 0, 0⟩, ownL l, ⟨z0, z1, hy, z0, z0⟩, hook, rfl, g1, fun h2 g3 g4 => ?_⟩
       obtain ⟨r, hre⟩ : ∃ r, r = docsPut qf ⟨0, 1, year, 0, 0⟩ (ownL l) := ⟨_, rfl⟩
       rw [← hre] at hq g3 ⊢
       clear hre
       obtain ⟨rf, ri, re⟩ := r
       simp only at hq g3 ⊢
       have hq' := hq h2 g3 (g2.trans g4)
       cases qw
       · simp -dsimp only [Vm.G, zA, zB, zC, zD, zE, zF, q42.1]
         exact hq'
       · simp -dsimp only [Vm.G, zA, zB, zC, zD, zE, zF, q42.1]
         exact hq'
     · have d3 : qe ≠ 0 := by simpa using c3
       simp only [if_pos d3] at hq
       simp -dsimp only [Vm.G, zA, zB, zC, zD, zE, zF, q42.1]
       exact hq h1 g1 g2
   · have d2 : e2 ≠ 0 := by simpa using c2
     simp only [if_pos d2] at hq
     simp -dsimp only [Vm.G, zA, zB, zC, zD, zE, zF, q42.1]
     exact hq h hV (.refl _ _)
 · have d1 : e ≠ 0 := by simpa using c1
   simp only [if_pos d1] at hq
   simp -dsimp only [Vm.G, zA, zB, zC, zD, zE, zF, q42.1]
   exact hq h hV (.refl _ _)
end Go.Proofs.Lx
namespace Go.Proofs.Lx
open Go.Vm Go.RowKit
open Go.Sort (SWO flatK HoldsK)
end Go.Proofs.Lx
namespace Go.Proofs.Lx
open Go.Vm
attribute [local irreducible] awpArr awpBin awpMake awpAppend awpCvX awpStrOf awpBinX awpSlice awpBS awpStore awpAlloc awpCopy awpIndex awpDraw awpIdxX awpFa awpField awpLookup awpUpdate awpDelete awpClear awpRange awpNext awpEntry awpBuild
def yesSpec : Vm.Spec := fun args h Q => args = [] ∧ ∀ h', Q (.v (.bool true)) h'
end Go.Proofs.Lx
namespace Go.Proofs.Lx
open Go.Vm
attribute [local irreducible] awpArr awpBin awpMake awpAppend awpCvX awpStrOf awpBinX awpSlice awpBS awpStore awpAlloc awpCopy awpIndex awpDraw awpIdxX awpFa awpField awpLookup awpUpdate awpDelete awpClear awpRange awpNext awpEntry awpBuild awpClearS awpIdxL
end Go.Proofs.Lx
namespace Go.Proofs.Lx
open Go.Vm
attribute [local irreducible] awpArr awpBin awpMake awpAppend awpCvX awpStrOf awpBinX awpSlice awpBS awpStore awpAlloc awpCopy awpIndex awpDraw awpIdxX awpFa awpField awpLookup awpUpdate awpDelete awpClear awpRange awpNext awpEntry awpBuild awpClearS awpIdxL awpTree appB awpIdxO eltA treeA
theorem both_rnew {h : Heap} {V : VId} (hV : isView h V noF) : Both (rNewH h) V (rNewId h) noF := by
 refine ⟨by unfold rNewH; exact hV.more _, isRef_new h, fun i hi hm => ?_⟩
 obtain ⟨chg, clk, mem, clk2, h1, h2, h3, -⟩ := hV
 have a1 := get_lt h1
 have a2 := get_lt h2
 have a3 := get_lt h3
 simp only [rNewId, zOa, zPb, or_false] at hi hm
 omega
def askBy (p : UInt8 → Bool) : Vm.Spec := fun args h Q => ∃ x : UInt8, args = [encB x] ∧ Q (.v (.bool (p x))) h
def ixSpecBy (T : Tab) : Vm.Spec := fun args h Q => ∃ (g : FuncId) (p : UInt8 → Bool) (l : List UInt8), T g = some (askBy p) ∧ l.length ≤ 9223372036854775807 ∧ args = [.sl 1 (l.map encB), .clo g []] ∧ ∀ i : Int, (l.any p = true ↔ 0 ≤ i) → Q (.v (.int .i64 i)) h
theorem does_ixBy {T : Tab} (hT : Good T) : Does Tryz.prog 200 (ixSpecBy T) := by
 refine dA hT Tryz.func200 rfl (by decide +kernel) ?_
 rintro args h Q ⟨g, p, l, hg, hl, rfl, hq⟩
 refine ⟨by simp [Tryz.f200], ?_⟩
 simp -dsimp only [Vm.G, zA, zB, zC, zD, zE, zF, q200.1]
 refine awp_loop (fun m s h' => ∃ i : Nat, i + m = l.length ∧ h' = h ∧ (∀ j (hj : j < l.length), j < i → p l[j] = false) ∧ s = mk [(0, .sl 1 (l.map encB)), (1, .clo g []), (7, .v (.int .i64 l.length)), (8, .v (.int .i64 i))])
   l.length _ (le_mk _ ?_) ⟨0, by omega, rfl, fun j _ hj => by omega, rfl⟩ ?_
 · simp only [Vm.D]
   try simp -dsimp only [Vm.G, zA, zB, zC, zD, zE, zF, q200.1]
   repeat' first | exact .refl _ | exact .nil _ _ _ (by decide) | refine ⟨?_, ?_⟩
 · rintro m s h' ⟨i, hi, rfl, hb, rfl⟩
   simp -dsimp only [Vm.G, zA, zB, zC, zD, zE, zF, q200.1]
   refine cond_intro (fun hcc => ?_) (fun hcc => ?_)
   · have hlt : i < l.length := by have := of_decide_eq_true hcc; omega
     obtain ⟨x, hx⟩ : ∃ x, l[i] = x := ⟨_, rfl⟩
     have hw := hwN i (by omega)
     simp -dsimp only [Vm.G, zA, zB, zC, zD, zE, zF, q200.1]
     refine idx_map encB l i hlt ?_
     simp only [hx, encB]
     simp -dsimp only [Vm.G, zA, zB, zC, zD, zE, zF, q200.1, AV.cells]
     refine call_one (S := askBy p) hg _ GaL.rfl ⟨x, rfl, ?_⟩
     cases hp : p x
     · simp -dsimp only [Vm.G, zA, zB, zC, zD, zE, zF, q200.1]
       refine kept_intro ⟨l.length - (i + 1), by omega, _, le_mk [(0, .sl 1 (l.map encB)), (1, .clo g []), (7, .v (.int .i64 l.length)), (8, .v (.int .i64 (i + 1 : Nat)))] ?_, i + 1, by omega, rfl, fun j hj hj2 => ?_, rfl⟩
       · simp only [Vm.D, hw]
         try simp -dsimp only [Vm.G, zA, zB, zC, zD, zE, zF, q200.1, hw]
         repeat' first | exact .refl _ | exact .nil _ _ _ (by decide) | refine ⟨?_, ?_⟩
       · by_cases hji : j = i
         · subst hji; rw [hx]; exact hp
         · exact hb j hj (by omega)
     · simp -dsimp only [Vm.G, zA, zB, zC, zD, zE, zF, q200.1]
       exact hq _ ⟨fun _ => by omega, fun _ => List.any_eq_true.2 ⟨x, hx ▸ zJb hlt, hp⟩⟩
   · have hge : ¬ i < l.length := by have := of_decide_eq_false hcc; omega
     simp -dsimp only [Vm.G, zA, zB, zC, zD, zE, zF, q200.1]
     refine hq _ ⟨fun hm => ?_, fun h0 => by omega⟩
     obtain ⟨x, hx, hp⟩ := List.any_eq_true.1 hm
     obtain ⟨j, hj, rfl⟩ := List.getElem_of_mem hx
     rw [hb j hj (by omega)] at hp; cases hp
def hasSpecBy (T : Tab) : Vm.Spec := fun args h Q => ∃ (g : FuncId) (p : UInt8 → Bool) (l : List UInt8), T g = some (askBy p) ∧ l.length ≤ 9223372036854775807 ∧ args = [.sl 1 (l.map encB), .clo g []] ∧ Q (.v (.bool (l.any p))) h
theorem does_hasBy {T : Tab} (hT : Good T) : Does Tryz.prog 145 (hasSpecBy T) := by
 refine dA (good_cons (does_ixBy hT) good_nil) Tryz.func145 rfl (by decide +kernel) ?_
 rintro args h Q ⟨g, p, l, hg, hl, rfl, hq⟩
 refine ⟨by simp [Tryz.f145], ?_⟩
 simp -dsimp only [Vm.G, zA, zB, zC, zD, zE, zF, q145.1]
 refine call_one (S := ixSpecBy T) rfl _ GaL.rfl ⟨g, p, l, hg, hl, rfl, fun i hi => ?_⟩
 have e : decide (i ≥ 0) = l.any p := by
   cases hx : l.any p
   · rw [hx] at hi; exact decide_eq_false fun h0 => by have := hi.2 h0; cases this
   · exact decide_eq_true (hi.1 hx)
 simp -dsimp only [Vm.G, zA, zB, zC, zD, zE, zF, q145.1, e]
 exact hq
def badC (c : UInt8) : Bool := decide ((c.toNat : Int) < 32) || decide ((c.toNat : Int) > 126)
theorem does_badC : Does Tryz.prog 146 (askBy badC) := by
 refine dA good_nil Tryz.func146 rfl (by decide +kernel) ?_
 rintro args h Q ⟨c, rfl, hq⟩
 refine ⟨by simp [Tryz.f146], ?_⟩
 unfold badC at hq
 simp only [encB]
 simp -dsimp only [Vm.G, zA, zB, zC, zD, zE, zF, q146.1]
 cases c1 : decide ((c.toNat : Int) < 32)
 · rw [c1] at hq
   simp -dsimp only [Vm.G, zA, zB, zC, zD, zE, zF, q146.1]
   exact hq
 · rw [c1] at hq
   simp -dsimp only [Vm.G, zA, zB, zC, zD, zE, zF, q146.1]
   exact hq
def badT : Tab := tab [(146, askBy badC)]
theorem good_badT : Good badT := good_cons does_badC good_nil
def nameOk (s : List UInt8) : Bool := !(s.length == 0) && (decide (s.length ≤ 20) && !(s.any badC))
def nameSpec : Vm.Spec := fun args h Q => ∃ s : List UInt8, s.length ≤ 1073741824 ∧ args = [.v (.string ⟨s.toArray⟩)] ∧ Q (.v (.bool (nameOk s))) h
theorem size_mk (s : List UInt8) : (⟨s.toArray⟩ : ByteArray).size = s.length := by simp [ByteArray.size]
theorem toList_no : (ByteArray.mk #[]).toList = [] := by simp [ByteArray.toList_eq]
theorem toList_em : ByteArray.empty.toList = [] := by simp [ByteArray.toList_eq]
theorem does_name : Does Tryz.prog 65 nameSpec := by
 refine dA (good_cons (does_hasBy good_badT) good_nil) Tryz.func65 rfl (by decide +kernel) ?_
 rintro args h Q ⟨s, hl, rfl, hq⟩
 refine ⟨by simp [Tryz.f65], ?_⟩
 unfold nameOk at hq
 simp -dsimp only [Vm.G, zA, zB, zC, zD, zE, zF, q65.1]
 simp -dsimp only [Vm.E, zA, zB, zC, zD, zE, zG, zH, str_eql, toList_mk, toList_no, toList_em]
 cases s with
 | nil =>
   have c0 : ((([] : List UInt8)) == []) = true := rfl
   simp -dsimp only [Vm.G, zA, zB, zC, zD, zE, zF, q65.1, c0]
   exact hq
 | cons a r =>
   have c0 : ((a :: r) == ([] : List UInt8)) = false := rfl
   have e0 : ((a :: r).length == 0) = false := rfl
   rw [e0] at hq
   generalize a :: r = s at hq hl c0 ⊢
   simp -dsimp only [Vm.G, zA, zB, zC, zD, zE, zF, q65.1, c0, size_mk]
   by_cases d : s.length ≤ 20
   · have c1 : decide ((s.length : Int) > 20) = false := decide_eq_false (by omega)
     rw [decide_eq_true d] at hq
     simp -dsimp only [Vm.G, zA, zB, zC, zD, zE, zF, q65.1, c1]
     refine cvX_bytes bt123 Tryz.underlying9 (by rw [size_mk]; unfold maxLen; omega) ?_
     simp -dsimp only [Vm.G, zA, zB, zC, zD, zE, zF, q65.1]
     refine call_one (S := hasSpecBy badT) rfl _ GaL.rfl ⟨146, badC, s, rfl, by omega, rfl, ?_⟩
     simp -dsimp only [Vm.G, zA, zB, zC, zD, zE, zF, q65.1]
     exact hq
   · have c1 : decide ((s.length : Int) > 20) = true := decide_eq_true (by omega)
     rw [decide_eq_false d] at hq
     simp -dsimp only [Vm.G, zA, zB, zC, zD, zE, zF, q65.1, c1]
     exact hq
def withinSpec : Vm.Spec := fun args h Q => ∃ n lo hi : Int, args = [.v (.int .i64 n), .v (.int .i64 lo), .v (.int .i64 hi)] ∧ Q (.v (.bool (decide (lo ≤ n) && decide (n ≤ hi)))) h
theorem does_withinC : Does Tryz.prog 144 withinSpec := by
 refine dA good_nil Tryz.func144 rfl (by decide +kernel) ?_
 rintro args h Q ⟨n, lo, hi, rfl, hq⟩
 refine ⟨by simp [Tryz.f144], ?_⟩
 simp -dsimp only [Vm.G, zA, zB, zC, zD, zE, zF, q144.1]
 cases c1 : decide (lo ≤ n)
 · rw [c1] at hq
   simp -dsimp only [Vm.G, zA, zB, zC, zD, zE, zF, q144.1]
   exact hq
 · rw [c1] at hq
   simp -dsimp only [Vm.G, zA, zB, zC, zD, zE, zF, q144.1]
   exact hq
def fundP (n : Int) : Bool := decide (100 ≤ n) && decide (n ≤ 999)
theorem does_fundC : Does Tryz.prog 64 (predSpec fundP) := by
 refine dA (good_cons does_withinC good_nil) Tryz.func64 rfl (by decide +kernel) ?_
 rintro args h Q ⟨n, rfl, hq⟩
 refine ⟨by simp [Tryz.f64], ?_⟩
 simp -dsimp only [Vm.G, zA, zB, zC, zD, zE, zF, q64.1]
 refine call_one (S := withinSpec) rfl _ GaL.rfl ⟨n, 100, 999, rfl, ?_⟩
 simp -dsimp only [Vm.G, zA, zB, zC, zD, zE, zF, q64.1]
 exact hq
def fixedP (n : Int) : Bool := n == 1010 || (n == 1900 || (n == 2900 || n == 3000))
theorem does_fixedC : Does Tryz.prog 153 (predSpec fixedP) := by
 refine dA good_nil Tryz.func153 rfl (by decide +kernel) ?_
 rintro args h Q ⟨n, rfl, hq⟩
 refine ⟨by simp [Tryz.f153], ?_⟩
 unfold fixedP at hq
 simp -dsimp only [Vm.G, zA, zB, zC, zD, zE, zF, q153.1]
 cases c1 : (n == 1010)
 · rw [c1] at hq
   simp -dsimp only [Vm.G, zA, zB, zC, zD, zE, zF, q153.1]
   cases c2 : (n == 1900)
   · rw [c2] at hq
     simp -dsimp only [Vm.G, zA, zB, zC, zD, zE, zF, q153.1]
     cases c3 : (n == 2900)
     · rw [c3] at hq
       simp -dsimp only [Vm.G, zA, zB, zC, zD, zE, zF, q153.1]
       cases c4 : (n == 3000)
       · rw [c4] at hq
         simp -dsimp only [Vm.G, zA, zB, zC, zD, zE, zF, q153.1]
         exact hq
       · rw [c4] at hq
         simp -dsimp only [Vm.G, zA, zB, zC, zD, zE, zF, q153.1]
         exact hq
     · rw [c3] at hq
       simp -dsimp only [Vm.G, zA, zB, zC, zD, zE, zF, q153.1]
       exact hq
   · rw [c2] at hq
     simp -dsimp only [Vm.G, zA, zB, zC, zD, zE, zF, q153.1]
     exact hq
 · rw [c1] at hq
   simp -dsimp only [Vm.G, zA, zB, zC, zD, zE, zF, q153.1]
   exact hq
def fundK (n : Int) : List UInt8 := keyOf 70 [n]
def objK (n : Int) : List UInt8 := keyOf 79 [n]
def cFundSpec : Vm.Spec := fun args h Q => ∃ (V : VId) (f : Fun) (n : Int), args = [.ptr V.iv 0, .v (.int .i64 n)] ∧ isView h V f ∧ (∀ s, f (fundK n) = some s → Q (.tup [.v (.string ⟨s.toArray⟩), .v (.bool true)]) h) ∧ (f (fundK n) = none → Q (.tup [.v (.string ⟨([] : List UInt8).toArray⟩), .v (.bool false)]) h)
theorem does_cFund : Does Tryz.prog 66 cFundSpec := by
 refine dA (good_cons does_key (good_cons does_vgetW good_nil)) Tryz.func66 rfl (by decide +kernel) ?_
 rintro args h Q ⟨V, f, n, rfl, hV, hq1, hq2⟩
 refine ⟨by simp [Tryz.f66], ?_⟩
 simp -dsimp only [Vm.G, zA, zB, zC, zD, zE, zF, q66.1]
 refine bs_intro zr3 (by decide) (by decide) rfl rfl (by simp [solid, AV.cells]) ?_
 simp -dsimp only [Vm.G, zA, zB, zC, zD, zE, zF, q66.1]
 refine call_one (S := keySpec) rfl _ GaL.rfl ⟨70, [n], by simp, rfl, ?_⟩
 simp -dsimp only [Vm.G, zA, zB, zC, zD, zE, zF, q66.1]
 refine call_one (S := vgetWSpec) rfl _ GaL.rfl ⟨V, f, fundK n, rfl, hV, fun s hf => ?_, fun hf => ?_⟩
 · simp -dsimp only [Vm.G, zA, zB, zC, zD, zE, zF, q66.1]
   refine strOf_sl bt123 s rfl ?_
   simp -dsimp only [Vm.G, zA, zB, zC, zD, zE, zF, q66.1]
   exact hq1 s hf
 · simp -dsimp only [Vm.G, zA, zB, zC, zD, zE, zF, q66.1]
   refine strOf_sl bt123 [] rfl ?_
   simp -dsimp only [Vm.G, zA, zB, zC, zD, zE, zF, q66.1]
   exact hq2 hf
def objOk (f : Fun) (n : Int) : Bool := fixedP n || (f (objK n)).isSome
def cObjSpec : Vm.Spec := fun args h Q => ∃ (V : VId) (f : Fun) (n : Int), args = [.ptr V.iv 0, .v (.int .i64 n)] ∧ isView h V f ∧ Q (.v (.bool (objOk f n))) h
theorem does_cObj : Does Tryz.prog 77 cObjSpec := by
 refine dA (good_cons does_fixedC (good_cons does_key (good_cons does_vgetW good_nil))) Tryz.func77 rfl (by decide +kernel) ?_
 rintro args h Q ⟨V, f, n, rfl, hV, hq⟩
 refine ⟨by simp [Tryz.f77], ?_⟩
 unfold objOk at hq
 simp -dsimp only [Vm.G, zA, zB, zC, zD, zE, zF, q77.1]
 refine call_one (S := predSpec fixedP) rfl _ GaL.rfl ⟨n, rfl, ?_⟩
 cases c1 : fixedP n
 · rw [c1] at hq
   simp -dsimp only [Vm.G, zA, zB, zC, zD, zE, zF, q77.1]
   refine bs_intro zr3 (by decide) (by decide) rfl rfl (by simp [solid, AV.cells]) ?_
   simp -dsimp only [Vm.G, zA, zB, zC, zD, zE, zF, q77.1]
   refine call_one (S := keySpec) rfl _ GaL.rfl ⟨79, [n], by simp, rfl, ?_⟩
   simp -dsimp only [Vm.G, zA, zB, zC, zD, zE, zF, q77.1]
   refine call_one (S := vgetWSpec) rfl _ GaL.rfl ⟨V, f, objK n, rfl, hV, fun s hf => ?_, fun hf => ?_⟩
   · rw [hf] at hq
     simp -dsimp only [Vm.G, zA, zB, zC, zD, zE, zF, q77.1]
     exact hq
   · rw [hf] at hq
     simp -dsimp only [Vm.G, zA, zB, zC, zD, zE, zF, q77.1]
     exact hq
 · rw [c1] at hq
   simp -dsimp only [Vm.G, zA, zB, zC, zD, zE, zF, q77.1]
   exact hq
def numF (p : KV) : Option Int := match splitOf p.1 with
 | some (_, [n]) => some n
 | _ => none
abbrev allF (l : List KV) : List Int := l.filterMap numF
def cAllSpec : Vm.Spec := fun args h Q => ∃ (V : VId) (f : Fun) (tag : UInt8), args = [.ptr V.iv 0, .v (.int .u8 tag.toNat)] ∧ isView h V f ∧ f.n ≤ 536870912 ∧
 ∀ l h', ScanIs f [tag] l → l.length ≤ 2 * f.n → isView h' V f → Same h h' [] → Q (.own true 3 1 ((allF l).map encI)) h'
theorem does_cAll : Does Tryz.prog 147 cAllSpec := by
 refine dA (good_cons does_scan (good_cons does_split good_nil)) Tryz.func147 rfl (by decide +kernel) ?_
 rintro args h Q ⟨V, f, tag, rfl, hV, hn, hq⟩
 refine ⟨by simp [Tryz.f147], ?_⟩
 simp -dsimp only [Vm.G, zA, zB, zC, zD, zE, zF, q147.1]
 refine bs_intro zr5 (by decide) (by decide) rfl rfl (by simp [solid, AV.cells]) ?_
 simp -dsimp only [Vm.G, zA, zB, zC, zD, zE, zF, q147.1]
 refine call_one (S := scanSpec) rfl _ GaL.rfl ⟨V, f, [tag], rfl, by simp, hV, hn, fun l h1 hsc hln hV1 hs1 => ?_⟩
 simp -dsimp only [Vm.G, zA, zB, zC, zD, zE, zF, q147.1]
 refine awp_loop (fun m s h' => ∃ i : Nat, i + m = l.length ∧ h' = h1 ∧ s = mk [(5, .own true 3 1 ((allF (l.take (i))).map encI)), (14, .own true 132 2 (l.map kvAv)), (15, .v (.int .i64 l.length)), (16, .v (.int .i64 (i : Nat)))])
   l.length _ (le_mk _ ?_) ⟨0, by omega, rfl, rfl⟩ ?_
 · simp only [Vm.D]
   try simp -dsimp only [Vm.G, zA, zB, zC, zD, zE, zF, q147.1]
   repeat' first | exact .refl _ | exact .nil _ _ _ (by decide) | refine ⟨?_, ?_⟩
 · rintro m s h' ⟨i, hi, rfl, rfl⟩
   simp -dsimp only [Vm.G, zA, zB, zC, zD, zE, zF, q147.1]
   refine cond_intro (fun hcc => ?_) (fun hcc => ?_)
   · have hlt : i < l.length := by have := of_decide_eq_true hcc; omega
     have hw := hwN i (by omega)
     have hget : (l.map kvAv)[i]? = some (kvAv l[i]) := by simp [hlt]
     have est := filterMap_step numF l i hlt
     have hal : (allF (l.take i)).length ≤ i := filterMap_le numF l i
     have hin := ((hsc.2 l[i].1 l[i].2).1 (zJb hlt)).1
     have hkl : l[i].1.length ≤ 32 := hV.klen hin
     clear hin
     generalize l[i] = p at hget est hkl
     obtain ⟨k, v⟩ := p
     simp only at hkl
     have e0 : numF (k, v) = match splitOf k with
       | some (_, [n]) => some n
       | _ => none := rfl
     simp -dsimp only [Vm.G, zA, zB, zC, zD, zE, zF, q147.1]
     refine idxO_intro (by omega) (by simp; omega) ?_
     simp -dsimp only [Vm.G, zA, zB, zC, zD, zE, zF, q147.1, zNa]
     refine eltA_intro hget ?_
     simp only [kvAv]
     simp -dsimp only [Vm.G, zA, zB, zC, zD, zE, zF, q147.1, AV.cells, zSb]
     refine call_one (S := splitSpec) rfl _ GaL.rfl ⟨k, by omega, rfl, fun hs => ?_, fun t l' hs => ?_⟩
     · rw [hs] at e0
       simp only at e0
       rw [e0] at est
       unfold noKey
       simp -dsimp only [Vm.G, zA, zB, zC, zD, zE, zF, q147.1]
       refine kept_intro ⟨l.length - (i + 1), by omega, _, le_mk [(5, .own true 3 1 ((allF (l.take (i + 1))).map encI)), (14, .own true 132 2 (l.map kvAv)), (15, .v (.int .i64 l.length)), (16, .v (.int .i64 (i + 1 : Nat)))] ?_, i + 1, by omega, rfl, rfl⟩
       simp only [Vm.D, hw, est, zPa, zLa]
       try simp -dsimp only [Vm.G, zA, zB, zC, zD, zE, zF, q147.1, hw, est, zPa, zLa]
       repeat' first | exact .refl _ | exact .nil _ _ _ (by decide) | refine ⟨?_, ?_⟩
     · rw [hs] at e0
       by_cases d3 : l'.length = 1
       · match l', d3 with
         | [n], _ =>
         simp only at e0
         rw [e0] at est
         have k1 : (((1 : Nat) : Int) == 1) = true := rfl
         have g0 : (([n] : List Int).map encI)[(0 : Int).toNat]? = some (encI n) := rfl
         have hl1 : (([n] : List Int).map encI).length = 1 := rfl
         generalize hxs : ([n] : List Int).map encI = xs at g0 hl1 ⊢
         simp -dsimp only [Vm.G, zA, zB, zC, zD, zE, zF, q147.1, hl1, k1]
         refine idxO_intro (by decide) (by rw [hl1]; decide) ?_
         simp -dsimp only [Vm.G, zA, zB, zC, zD, zE, zF, q147.1]
         refine eltA_intro g0 ?_
         simp only [encI]
         simp -dsimp only [Vm.G, zA, zB, zC, zD, zE, zF, q147.1, AV.cells, zSb]
         refine bs_intro zr3 (by decide) (by decide) rfl rfl (by simp [solid, AV.cells]) ?_
         simp -dsimp only [Vm.G, zA, zB, zC, zD, zE, zF, q147.1]
         refine app_sl Tryz.underlying120 (by simp [AV.cells]) (by simp only [zIa, zKa, zMa]; omega) ?_
         simp -dsimp only [Vm.G, zA, zB, zC, zD, zE, zF, q147.1]
         refine kept_intro ⟨l.length - (i + 1), by omega, _, le_mk [(5, .own true 3 1 ((allF (l.take (i + 1))).map encI)), (14, .own true 132 2 (l.map kvAv)), (15, .v (.int .i64 l.length)), (16, .v (.int .i64 (i + 1 : Nat)))] ?_, i + 1, by omega, rfl, rfl⟩
         simp only [Vm.D, hw, est, zPa, zQa, zVa, zIb, encI]
         try simp -dsimp only [Vm.G, zA, zB, zC, zD, zE, zF, q147.1, hw, est, zPa, zQa, zVa, zIb, encI]
         repeat' first | exact .refl _ | exact .nil _ _ _ (by decide) | refine ⟨?_, ?_⟩
       · have c3 : ((l'.length : Int) == 1) = false := by simp; omega
         have e0 : numF (k, v) = none := by
           rw [e0]
           split
           · rename_i h2; cases h2; exact absurd rfl d3
           · rfl
         rw [e0] at est
         simp -dsimp only [Vm.G, zA, zB, zC, zD, zE, zF, q147.1, c3]
         refine kept_intro ⟨l.length - (i + 1), by omega, _, le_mk [(5, .own true 3 1 ((allF (l.take (i + 1))).map encI)), (14, .own true 132 2 (l.map kvAv)), (15, .v (.int .i64 l.length)), (16, .v (.int .i64 (i + 1 : Nat)))] ?_, i + 1, by omega, rfl, rfl⟩
         simp only [Vm.D, hw, est, zPa, zLa]
         try simp -dsimp only [Vm.G, zA, zB, zC, zD, zE, zF, q147.1, hw, est, zPa, zLa]
         repeat' first | exact .refl _ | exact .nil _ _ _ (by decide) | refine ⟨?_, ?_⟩
   · have hge : ¬ i < l.length := by have := of_decide_eq_false hcc; omega
     simp -dsimp only [Vm.G, zA, zB, zC, zD, zE, zF, q147.1]
     rw [zJa (by omega)]
     exact hq l h' hsc hln hV1 hs1
def cFundsSpec : Vm.Spec := fun args h Q => ∃ (V : VId) (f : Fun), args = [.ptr V.iv 0] ∧ isView h V f ∧ f.n ≤ 536870912 ∧
 ∀ l h', ScanIs f [70] l → l.length ≤ 2 * f.n → isView h' V f → Same h h' [] → Q (.own true 3 1 ((allF l).map encI)) h'
theorem does_cFunds : Does Tryz.prog 67 cFundsSpec := by
 refine dA (good_cons does_cAll good_nil) Tryz.func67 rfl (by decide +kernel) ?_
 rintro args h Q ⟨V, f, rfl, hV, hn, hq⟩
 refine ⟨by simp [Tryz.f67], ?_⟩
 simp -dsimp only [Vm.G, zA, zB, zC, zD, zE, zF, q67.1]
 refine call_one (S := cAllSpec) rfl _ GaL.rfl ⟨V, f, 70, rfl, hV, hn, fun l h1 hsc hln hV1 hs1 => ?_⟩
 simp -dsimp only [Vm.G, zA, zB, zC, zD, zE, zF, q67.1]
 exact hq l h1 hsc hln hV1 hs1
def Many (f : Fun) : Prop := ∃ l, ScanIs f [70] l ∧ 40 ≤ (allF l).length
theorem many_iff {f : Fun} {l : List KV} (h : ScanIs f [70] l) : Many f ↔ 40 ≤ (allF l).length :=
 ⟨fun ⟨l', h1, h2⟩ => by rw [h.same h1]; exact h2, fun h2 => ⟨l, h, h2⟩⟩
open Classical in
noncomputable def newFund (f : Fun) (n : Int) (s : List UInt8) : Fun × Int :=
 if fundP n = true ∧ nameOk s = true then (if f (fundK n) ≠ none then (f, 8) else if Many f then (f, 11) else (upd f (fundK n) (some s), 0)) else (f, 1)
theorem fundK_length (n : Int) : (fundK n).length = 5 := key1_length 70 n
theorem right_fund {n : Int} {s : List UInt8} (h : nameOk s = true) : rightKV (fundK n) s = true := by
 unfold nameOk at h
 simp only [Bool.and_eq_true, decide_eq_true_eq] at h
 simp [rightKV, fundK_length]
 omega
theorem name_len {s : List UInt8} (h : nameOk s = true) : s.length ≤ 20 := by
 unfold nameOk at h
 simp only [Bool.and_eq_true, decide_eq_true_eq] at h
 exact h.2.1
def cNewSpec : Vm.Spec := fun args h Q => ∃ (V : VId) (f : Fun) (n : Int) (s : List UInt8), s.length ≤ 1073741824 ∧ args = [.ptr V.iv 0, .v (.int .i64 n), .v (.string ⟨s.toArray⟩)] ∧ isView h V f ∧ f.n ≤ 536870912 ∧
 ∀ h', isView h' V (newFund f n s).1 → Same h h' [V.ic] → Q (.v (.int .i64 (newFund f n s).2)) h'
theorem Same.wide {h h' : Heap} {fp : List Nat} (hs : Same h h' []) : Same h h' fp := ⟨hs.1, fun i hi _ => hs.2 i hi (by simp)⟩
theorem does_cNew : Does Tryz.prog 24 cNewSpec := by
 refine dA (good_cons does_fundC (good_cons does_name (good_cons does_cFund (good_cons does_cFunds (good_cons does_key (good_cons does_vput good_nil)))))) Tryz.func24 rfl (by decide +kernel) ?_
 rintro args h Q ⟨V, f, n, s, hsl, rfl, hV, hn, hq⟩
 refine ⟨by simp [Tryz.f24], ?_⟩
 unfold newFund at hq
 simp -dsimp only [Vm.G, zA, zB, zC, zD, zE, zF, q24.1]
 refine call_one (S := predSpec fundP) rfl _ GaL.rfl ⟨n, rfl, ?_⟩
 cases c1 : fundP n
 · rw [if_neg (by rw [c1]; simp)] at hq
   simp -dsimp only [Vm.G, zA, zB, zC, zD, zE, zF, q24.1]
   exact hq h hV (.refl _ _)
 · simp -dsimp only [Vm.G, zA, zB, zC, zD, zE, zF, q24.1]
   refine call_one (S := nameSpec) rfl _ GaL.rfl ⟨s, hsl, rfl, ?_⟩
   cases c2 : nameOk s
   · rw [if_neg (by rw [c2]; simp)] at hq
     simp -dsimp only [Vm.G, zA, zB, zC, zD, zE, zF, q24.1]
     exact hq h hV (.refl _ _)
   · rw [if_pos ⟨c1, c2⟩] at hq
     have hsl2 := name_len c2
     simp -dsimp only [Vm.G, zA, zB, zC, zD, zE, zF, q24.1]
     refine call_one (S := cFundSpec) rfl _ GaL.rfl ⟨V, f, n, rfl, hV, fun q hf => ?_, fun hf => ?_⟩
     · rw [if_pos (by rw [hf]; simp)] at hq
       simp -dsimp only [Vm.G, zA, zB, zC, zD, zE, zF, q24.1]
       exact hq h hV (.refl _ _)
     · rw [if_neg (by rw [hf]; simp)] at hq
       simp -dsimp only [Vm.G, zA, zB, zC, zD, zE, zF, q24.1]
       refine call_one (S := cFundsSpec) rfl _ GaL.rfl ⟨V, f, rfl, hV, hn, fun l h1 hsc hln hV1 hs1 => ?_⟩
       simp -dsimp only [Vm.G, zA, zB, zC, zD, zE, zF, q24.1, zIa]
       cases c4 : decide (((allF l).length : Int) ≥ 40)
       · have d4 := of_decide_eq_false c4
         rw [if_neg (by rw [many_iff hsc]; omega)] at hq
         simp -dsimp only [Vm.G, zA, zB, zC, zD, zE, zF, q24.1]
         refine bs_intro zr3 (by decide) (by decide) rfl rfl (by simp [solid, AV.cells]) ?_
         simp -dsimp only [Vm.G, zA, zB, zC, zD, zE, zF, q24.1]
         refine call_one (S := keySpec) rfl _ GaL.rfl ⟨70, [n], by simp, rfl, ?_⟩
         simp -dsimp only [Vm.G, zA, zB, zC, zD, zE, zF, q24.1]
         refine cvX_bytes bt123 Tryz.underlying9 (by rw [size_mk]; unfold maxLen; omega) ?_
         simp -dsimp only [Vm.G, zA, zB, zC, zD, zE, zF, q24.1]
         refine call_one (S := vputSpec) rfl _ GaL.rfl ⟨V, f, fundK n, s, rfl, hV1, fun _ h2 g1 g2 => ?_, fun hc => by rw [right_fund c2] at hc; cases hc⟩
         simp -dsimp only [Vm.G, zA, zB, zC, zD, zE, zF, q24.1]
         exact hq h2 g1 ((Same.wide hs1).trans g2)
       · have d4 := of_decide_eq_true c4
         rw [if_pos ((many_iff hsc).2 (by omega))] at hq
         simp -dsimp only [Vm.G, zA, zB, zC, zD, zE, zF, q24.1]
         exact hq h1 hV1 (Same.wide hs1)
def intK (n : Int) : Value := .int .i64 n
def nOf (e : Ent) : Int := match e.key with
 | .int _ n => n
 | _ => 0
def mOf (e : Ent) : Int := match e.val with
 | .v (.int _ n) => n
 | _ => 0
theorem nOf_eq {e : Ent} {k : Int} (h : e.key = intK k) : nOf e = k := by unfold nOf; rw [h]; rfl
def BornI (es : List Ent) (clock : Nat) : Prop := ((es.map (·.born)).Nodup ∧ (es.map nOf).Nodup) ∧ ∀ e ∈ es, e.born < clock
theorem keyEq_int (a b : Int) : keyEq (intK a) (intK b) = (a == b) := by
 have h1 := keyEq_iff (d := .int .i64) (x := intK a) (y := intK b) rfl rfl
 cases h : keyEq (intK a) (intK b)
 · have : ¬ a = b := fun e => by rw [h1.2 (by rw [e])] at h; cases h
   simpa using this
 · have := h1.1 h
   simp only [intK, Value.int.injEq, true_and] at this
   simp [this]
theorem mget_mputI {v : AV} {c : Nat} (k k' : Int) : ∀ {es : List Ent}, (∀ e ∈ es, ∃ k, e.key = intK k) →
   (mget (intK k') (mput (intK k) v c es)).map Ent.val = if k' = k then some v else (mget (intK k') es).map Ent.val
 | [], _ => by
   simp only [mput, mget, List.find?_cons, List.find?_nil, keyEq_int]
   by_cases h : k' = k
   · simp [h]
   · have h4 : (k' == k) = false := by simpa using h
     simp [h, h4]
 | e :: es, hk => by
   obtain ⟨q, hq⟩ := hk e (zRa ..)
   simp only [mput, hq, keyEq_int]
   by_cases h1 : k = q
   · subst h1
     simp only [beq_self_eq_true, if_true, mget, List.find?_cons, keyEq_int, hq]
     by_cases h : k' = k
     · simp [h]
     · have h4 : (k' == k) = false := by simpa using h
       simp [h, h4]
   · have h2 : (k == q) = false := by simpa using h1
     simp only [h2, zUb, if_false, mget, List.find?_cons, hq, keyEq_int]
     by_cases h3 : k' = q
     · have : ¬ k' = k := fun e => h1 (e.symm.trans h3)
       simp [h3, Ne.symm h1]
     · have h4 : (k' == q) = false := by simpa using h3
       simp only [h4]
       exact mget_mputI k k' fun e he => hk e (zXa _ he)
theorem mput_keysI {q : Int} {v : AV} {c : Nat} : ∀ {es : List Ent}, (∀ e ∈ es, ∃ k, e.key = intK k) → (mput (intK q) v c es).map nOf = es.map nOf ∨ (q ∉ es.map nOf ∧ (mput (intK q) v c es).map nOf = es.map nOf ++ [q])
 | [], _ => .inr ⟨by simp, by simp [mput, nOf, intK]⟩
 | x :: es, hk => by
   obtain ⟨kx, hx⟩ := hk x (zRa ..)
   have hkx : nOf x = kx := nOf_eq hx
   simp only [mput]
   rw [hx, keyEq_int]
   by_cases hq : q = kx
   · left
     subst hq
     have e1 : nOf ⟨intK q, v, x.born⟩ = nOf x := by rw [hkx]; exact nOf_eq rfl
     simp [e1]
   · have hq' : (q == kx) = false := by simpa using hq
     rw [hq']
     simp only [zUb, if_false, zVa]
     rcases mput_keysI (q := q) (v := v) (c := c) (es := es) (fun e he => hk e (zXa _ he)) with h | ⟨h1, h2⟩
     · left; rw [h]
     · right
       refine ⟨?_, by rw [h2]; rfl⟩
       simp only [zOa, not_or]
       exact ⟨by rw [hkx]; exact hq, h1⟩
theorem BornI.put {q : Int} {v : AV} {c : Nat} {es : List Ent} (h : BornI es c) (hk : ∀ e ∈ es, ∃ k, e.key = intK k) : BornI (mput (intK q) v c es) (mclk (intK q) es c) := by
 have hkeys : ((mput (intK q) v c es).map nOf).Nodup := by
   rcases mput_keysI (q := q) (v := v) (c := c) hk with h' | ⟨h1, h2⟩
   · rw [h']; exact h.1.2
   · rw [h2, List.nodup_append]
     exact ⟨h.1.2, by simp, fun a ha b hb => by simp only [zQb] at hb; subst hb; intro e; exact h1 (e ▸ ha)⟩
 generalize intK q = k at hkeys ⊢
 have hb : ∀ b ∈ es.map (·.born), b < c := fun b hb => by obtain ⟨e, he, rfl⟩ := zOb.1 hb; exact h.2 e he
 have hc : c ≤ mclk k es c := by unfold mclk; split <;> omega
 rcases mput_born (k := k) (v := v) (c := c) (es := es) with h1 | ⟨h1, h2⟩
 · exact ⟨⟨by rw [h1]; exact h.1.1, hkeys⟩, fun e he => Nat.lt_of_lt_of_le (hb _ (h1 ▸ List.mem_map_of_mem he)) hc⟩
 · have h3 : mclk k es c = c + 1 := by simp [mclk, h1]
   refine ⟨⟨?_, hkeys⟩, fun e he => ?_⟩
   · rw [h2, List.nodup_append]
     refine ⟨h.1.1, by simp, fun a ha b hb' => ?_⟩
     simp only [zQb] at hb'
     have := hb a ha
     omega
   · have : e.born ∈ es.map (·.born) ++ [c] := h2 ▸ List.mem_map_of_mem he
     rw [h3]
     rcases List.mem_append.1 this with h4 | h4
     · have := hb _ h4; omega
     · simp only [zQb] at h4; omega
theorem mget_iffI {es : List Ent} (hk : ∀ e ∈ es, ∃ k, e.key = intK k) (hn : (es.map nOf).Nodup) {k : Int} {e : Ent} : mget (intK k) es = some e ↔ e ∈ es ∧ nOf e = k := by
 constructor
 · intro h
   have hm := mget_mem h
   obtain ⟨q, hq⟩ := hk e hm
   have := List.find?_some (p := fun (e : Ent) => keyEq (intK k) e.key) h
   rw [hq, keyEq_int] at this
   exact ⟨hm, by rw [nOf_eq hq]; exact (by simpa using this : k = q).symm⟩
 · rintro ⟨hm, hke⟩
   cases hf : mget (intK k) es with
   | none =>
     have := List.find?_eq_none.1 hf e hm
     obtain ⟨q, hq⟩ := hk e hm
     rw [hq, keyEq_int, ← hke, nOf_eq hq] at this
     simp at this
   | some e' =>
     have hm' := mget_mem hf
     obtain ⟨q, hq⟩ := hk e' hm'
     have := List.find?_some (p := fun (e : Ent) => keyEq (intK k) e.key) hf
     rw [hq, keyEq_int] at this
     have hkq : k = q := by simpa using this
     rw [inj_of_map hn hm hm' (by rw [hke, nOf_eq hq]; exact hkq)]
theorem w64_add (a b : Int) : w64 (w64 a + b) = w64 (a + b) := by
 show IntKind.i64.wrap _ = IntKind.i64.wrap _
 rw [wrap_i64_toInt, wrap_i64_toInt]
 congr 1
 show BitVec.ofInt 64 (IntKind.i64.wrap a + b) = _
 rw [wrap_i64_toInt, BitVec.ofInt_add, BitVec.ofInt_toInt, ← BitVec.ofInt_add]
theorem w64s_perm {a b : List Int} (h : a.Perm b) : w64s a = w64s b := by
 refine h.foldl_eq' (fun x _ y _ z => ?_) 0
 show w64 (w64 (z + x) + y) = w64 (w64 (z + y) + x)
 rw [w64_add, w64_add]
 congr 1; omega
def sumF (l : List Ln) (n : Int) : Int := w64s ((l.filter (·.fund == n)).map (·.amt))
theorem sumF_step (l : List Ln) (x : Ln) (n : Int) : sumF (l ++ [x]) n = if n = x.fund then w64 (sumF l n + x.amt) else sumF l n := by
 unfold sumF
 rw [List.filter_append, zQa]
 by_cases h : n = x.fund
 · subst h
   simp [List.filter_cons, w64s, List.foldl_append]
 · have : (x.fund == n) = false := by simpa using fun e => h e.symm
   simp [List.filter_cons, this, h]
theorem sumF_none {l : List Ln} {n : Int} (h : ¬ ∃ y ∈ l, y.fund = n) : sumF l n = 0 := by
 have : l.filter (·.fund == n) = [] := List.filter_eq_nil_iff.2 fun y hy => by simpa using fun e => h ⟨y, hy, e⟩
 unfold sumF
 rw [this]; rfl
theorem sumF_perm {l l' : List Ln} (h : l.Perm l') (n : Int) : sumF l n = sumF l' n := w64s_perm ((h.filter _).map _)
def IsFunds (l r : List Ln) : Prop := r.Pairwise (fun a b => a.fund < b.fund) ∧ ∀ x, x ∈ r ↔ ((∃ y ∈ l, y.fund = x.fund) ∧ x = ⟨x.fund, 0, 0, sumF l x.fund⟩)
theorem IsFunds.perm {l l' r : List Ln} (h : IsFunds l r) (hp : l.Perm l') : IsFunds l' r :=
 ⟨h.1, fun x => (h.2 x).trans (by rw [sumF_perm hp]; exact and_congr_left' ⟨fun ⟨y, h1, h2⟩ => ⟨y, hp.mem_iff.1 h1, h2⟩, fun ⟨y, h1, h2⟩ => ⟨y, hp.mem_iff.2 h1, h2⟩⟩)⟩
theorem nodup_le {α : Type} [DecidableEq α] : ∀ {a b : List α}, a.Nodup → (∀ x ∈ a, x ∈ b) → a.length ≤ b.length
 | [], _, _, _ => by simp
 | x :: a, b, hn, h => by
   have hn := List.nodup_cons.1 hn
   have := nodup_le (b := b.erase x) hn.2 fun y hy => (List.mem_erase_of_ne fun e => hn.1 (by rw [← e]; exact hy)).2 (h y (zXa _ hy))
   rw [List.length_erase_of_mem (h x (zRa ..))] at this
   have hb : 0 < b.length := List.length_pos_of_mem (h x (zRa ..))
   simp only [zKa]; omega
theorem IsFunds.len {l r : List Ln} (h : IsFunds l r) : r.length ≤ l.length := by
 have := nodup_le (a := r.map Ln.fund) (b := l.map Ln.fund) (List.pairwise_map.2 (h.1.imp fun {a b} hab => by omega)) fun x hx => by
   obtain ⟨y, hy, rfl⟩ := zOb.1 hx
   obtain ⟨z, hz, e⟩ := ((h.2 y).1 hy).1
   rw [← e]; exact List.mem_map_of_mem hz
 simpa using this
def SumE (l : List Ln) (es : List Ent) (clk : Nat) : Prop := (∀ e ∈ es, ∃ n, e.key = intK n) ∧ BornI es clk ∧ es.length ≤ l.length ∧
 ∀ n, ((∃ y ∈ l, y.fund = n) → (mget (intK n) es).map Ent.val = some (.v (.int .i64 (sumF l n)))) ∧ ((¬ ∃ y ∈ l, y.fund = n) → mget (intK n) es = none)
theorem SumE.step {l : List Ln} {es : List Ent} {clk : Nat} (h : SumE l es clk) (x : Ln) : SumE (l ++ [x]) (mput (intK x.fund) (.v (.int .i64 (w64 (sumF l x.fund + x.amt)))) clk es) (mclk (intK x.fund) es clk) := by
 obtain ⟨h1, h2, h3, h4⟩ := h
 refine ⟨fun e he => ?_, h2.put h1, ?_, fun n => ?_⟩
 · rcases mput_mem he with h | ⟨h, -⟩
   · exact h1 e h
   · exact ⟨_, h⟩
 · have := mput_length (k := intK x.fund) (v := .v (.int .i64 (w64 (sumF l x.fund + x.amt)))) (c := clk) es
   rw [zTb]; simp only [zKa, zMa]; omega
 · have hg := mget_mputI (v := .v (.int .i64 (w64 (sumF l x.fund + x.amt)))) (c := clk) x.fund n h1
   rw [sumF_step]
   by_cases d : n = x.fund
   · subst d
     rw [if_pos rfl] at hg
     rw [if_pos rfl]
     exact ⟨fun _ => hg, fun hn => (hn ⟨x, by simp, rfl⟩).elim⟩
   · rw [if_neg d] at hg
     rw [if_neg d]
     have hiff : (∃ y ∈ l ++ [x], y.fund = n) ↔ ∃ y ∈ l, y.fund = n := ⟨fun ⟨y, hy, e⟩ => by
       rcases List.mem_append.1 hy with hy | hy
       · exact ⟨y, hy, e⟩
       · rw [zQb] at hy; subst hy; exact (d e.symm).elim, fun ⟨y, hy, e⟩ => ⟨y, by simp [hy], e⟩⟩
     rw [hiff]
     refine ⟨fun hn => by rw [hg]; exact (h4 n).1 hn, fun hn => ?_⟩
     have := (h4 n).2 hn
     rw [this] at hg
     cases hm : mget (intK n) (mput (intK x.fund) (.v (.int .i64 (w64 (sumF l x.fund + x.amt)))) clk es) with
     | none => rfl
     | some e => rw [hm] at hg; cases hg
def lnE (e : Ent) : Ln := ⟨nOf e, 0, 0, mOf e⟩
theorem SumE.val {l : List Ln} {es : List Ent} {clk : Nat} (h : SumE l es clk) {e : Ent} (he : e ∈ es) : e.key = intK (nOf e) ∧ e.val = .v (.int .i64 (sumF l (nOf e))) ∧ ∃ y ∈ l, y.fund = nOf e := by
 obtain ⟨n, hn⟩ := h.1 e he
 have hnn := nOf_eq hn
 have hg := (mget_iffI h.1 h.2.1.1.2 (k := nOf e) (e := e)).2 ⟨he, rfl⟩
 have hex : ∃ y ∈ l, y.fund = nOf e := Classical.byContradiction fun hc => by
   rw [(h.2.2.2 _).2 hc] at hg; cases hg
 have := (h.2.2.2 _).1 hex
 rw [hg] at this
 exact ⟨by rw [hnn]; exact hn, by simpa using this, hex⟩
theorem SumE.nodup {l : List Ln} {es done : List Ent} {clk : Nat} (h : SumE l es clk) (hd : done.Perm es) : ((done.map lnE).map Ln.fund).Nodup := by
 rw [List.map_map]
 have : (done.map nOf).Nodup := ((hd.map nOf).nodup_iff).2 h.2.1.1.2
 exact this
abbrev InR (n : Int) : Prop := 0 ≤ n ∧ n ≤ 4294967295
theorem keyOf_tag {t t' : UInt8} {l l' : List Int} (h : t ≠ t') : keyOf t l ≠ keyOf t' l' := fun e => by
 unfold keyOf at e
 exact h (List.cons.inj e).1
theorem bit_ne (b : Bool) : (bitOf b != 0) = b := by cases b <;> rfl
theorem nodeOf_put {m : Nd} (hm : m.ok) (r1 : InR m.year) (r2 : InR m.id) : nodeOf (ndK m) (ndV m) = some m := by
 have hv : ndV m = packs 8 (ndVal m) := rfl
 have hn : numsOf (packs 8 (ndVal m)) 10 = ndVal m := by
   refine numsOf_packs (ndVal m) fun x hx => ?_
   obtain ⟨o1, o2, o3, o4, o5, o6, o7, o8, o9, o10, o11⟩ := hm
   have ob := bit_i64 m.abs
   simp only [ndVal, zOa, zPb, or_false] at hx
   rcases hx with rfl | rfl | rfl | rfl | rfl | rfl | rfl | rfl | rfl | rfl <;> assumption
 unfold nodeOf numsPair
 rw [ndK, splitOf_key 78 (ndKey m) (by simp [ndKey])]
 have hk : (ndKey m).map clampK = [m.year, m.id] := by simp [ndKey, clampK_id r1.1 r1.2, clampK_id r2.1 r2.2]
 simp only [hk]
 rw [if_pos ⟨trivial, rfl, ndV_length m⟩, hv, hn]
 obtain ⟨a1, a2, a3, a4, a5, a6, a7, a8, a9, a10, a11, a12⟩ := m
 simp [ndOf, ndVal, bit_ne]
theorem ndK_iff {m : Nd} {y i : Int} (r1 : InR m.year) (r2 : InR m.id) (r3 : InR y) (r4 : InR i) : keyOf 78 [y, i] = ndK m ↔ y = m.year ∧ i = m.id := by
 constructor
 · intro h
   have := (key_inj (by simp) (by simp [ndKey]) h).2
   simp only [zVa, zIb, ndKey, clampK_id r1.1 r1.2, clampK_id r2.1 r2.2, clampK_id r3.1 r3.2, clampK_id r4.1 r4.2] at this
   simpa using this
 · rintro ⟨rfl, rfl⟩; rfl
def yr20 (n : Nd) : Nd := { n with year := 2020 }
def putN (f : Fun) (n : Nd) : Fun := upd f (ndK (yr20 n)) (some (ndV (yr20 n)))
theorem yr_nd (y : Int) (m : Nd) : yrK y ≠ ndK m := keyOf_tag (t := 89) (t' := 78) (l := [y]) (l' := ndKey m) (by decide)
theorem open20 : (openOf noF 2020).1 = yrTurn noF 2020 1 := by
 have : openOf noF 2020 = (yrTurn noF 2020 1, 0) := by unfold openOf; rw [state_new]; rfl
 rw [this]
end Go.Proofs.Lx
namespace Go.Proofs.Lx
open Go.Vm
def tot {α : Type} (g : α → Int) : List α → Int
 | [] => 0
 | x :: r => g x + tot g r
theorem tot_append {α : Type} (g : α → Int) : ∀ a b : List α, tot g (a ++ b) = tot g a + tot g b
 | [], b => by show tot g b = 0 + _; omega
 | x :: r, b => by
   show g x + tot g (r ++ b) = g x + tot g r + tot g b
   rw [tot_append g r b]; omega
theorem tot_congr {α : Type} {g g' : α → Int} : ∀ {l : List α}, (∀ x ∈ l, g x = g' x) → tot g l = tot g' l
 | [], _ => rfl
 | x :: r, h => by
   show g x + tot g r = g' x + tot g' r
   rw [h x (zRa ..), tot_congr fun y hy => h y (zXa _ hy)]
theorem tot_add {α : Type} (g g' : α → Int) : ∀ l : List α, tot (fun x => g x + g' x) l = tot g l + tot g' l
 | [] => rfl
 | x :: r => by
   show g x + g' x + tot _ r = g x + tot g r + (g' x + tot g' r)
   rw [tot_add g g' r]; omega
theorem tot_zero {α : Type} {g : α → Int} : ∀ {l : List α}, (∀ x ∈ l, g x = 0) → tot g l = 0
 | [], _ => rfl
 | x :: r, h => by
   show g x + tot g r = 0
   rw [h x (zRa ..), tot_zero fun y hy => h y (zXa _ hy)]; rfl
theorem tot_map {α β : Type} (g : β → Int) (f : α → β) : ∀ l : List α, tot g (l.map f) = tot (fun x => g (f x)) l
 | [] => rfl
 | x :: r => by
   show g (f x) + tot g (r.map f) = g (f x) + _
   rw [tot_map g f r]
theorem tot_one {α : Type} [DecidableEq α] (c : α → Int) : ∀ {K : List α}, K.Nodup → ∀ k, tot (fun j => if k = j then c j else 0) K = if k ∈ K then c k else 0
 | [], _, k => by simp [tot]
 | x :: r, h, k => by
   rw [List.nodup_cons] at h
   show (if k = x then c x else 0) + tot _ r = _
   rw [tot_one c h.2 k]
   by_cases hx : k = x
   · subst hx
     rw [if_pos rfl, if_neg h.1, if_pos (zRa ..)]; omega
   · rw [if_neg hx]
     by_cases hr : k ∈ r
     · rw [if_pos hr, if_pos (zXa _ hr)]; omega
     · rw [if_neg hr, if_neg (by simp [hx, hr])]; rfl
abbrev Bk := Int × Int
def ck (x : Ln) : Bk := (clampK x.fund, clampK x.obj)
def lk (x : Ln) : Bk := (x.fund, x.obj)
end Go.Proofs.Lx
namespace Go.Proofs.Lx
open Go.Vm
attribute [local irreducible] awpArr awpBin awpMake awpAppend awpCvX awpStrOf awpBinX awpSlice awpBS awpStore awpAlloc awpCopy awpIndex awpDraw awpIdxX awpFa awpField awpLookup awpUpdate awpDelete awpClear awpRange awpNext awpEntry awpBuild awpClearS awpIdxL awpTree appB awpIdxO eltA treeA
def Dl.zero : Dl := ⟨0, 0, 0, 0⟩
def Dc.zero : Dc := ⟨0, 0, 0, 0, 0⟩
def dcOf (l : List Int) : Dc := ⟨l.getD 0 0, l.getD 1 0, l.getD 2 0, l.getD 3 0, l.getD 4 0⟩
def dlOf (l : List Int) : Dl := ⟨l.getD 2 0, l.getD 3 0, l.getD 4 0, l.getD 5 0⟩
def docOf (key val : List UInt8) : Option Dc := (numsPair 68 1 4 key val).map dcOf
def lineOf (key val : List UInt8) : Option Dl := (numsPair 76 2 4 key val).map dlOf
def docOfSpec : Vm.Spec := fun args h Q => ∃ key val : List UInt8, key.length ≤ 4611686018427387904 ∧ val.length ≤ 4611686018427387904 ∧ args = [.agg [.sl 1 (key.map encB), .sl 1 (val.map encB)]] ∧
 (∀ d, docOf key val = some d → Q (.tup [.agg (dcCells d), .v (.bool true)]) h) ∧ (docOf key val = none → Q (.tup [.agg (dcCells .zero), .v (.bool false)]) h)
theorem does_docOf : Does Tryz.prog 122 docOfSpec := by
 refine dA (good_cons does_documents (good_cons does_nums good_nil)) Tryz.func122 rfl (by decide +kernel) ?_
 rintro args h Q ⟨key, val, hk, hv, rfl, hq1, hq2⟩
 refine ⟨by simp [Tryz.f122], ?_⟩
 unfold docOf at hq1 hq2
 simp only [dcCells, Dc.zero] at hq2
 simp -dsimp only [Vm.G, zA, zB, zC, zD, zE, zF, q122.1]
 refine draw_cont [1] (.take 1 (.alt 0 (.alt 2 (.take 3 (.take 4 (.take 5 (.alt 6 (.alt 7 (.done) .stop) .stop)))) .stop) .stop)) (fun s h' => h' = h ∧ s 2 = .box (dcCells .zero) ∧ ((∃ l, numsPair 68 1 4 key val = some l ∧ s 4 = .own true 3 1 (l.map encI) ∧ s 5 = .v (.bool true)) ∨ (numsPair 68 1 4 key val = none ∧ s 5 = .v (.bool false)))) (by kernel_rfl) (by kernel_rfl) (by kernel_rfl) (by decide) ?_ ?_
 · simp -dsimp only [Vm.G, zA, zB, zC, zD, zE, zF, q122.1]
   refine call_one (S := tabSpec 68 1 4) rfl _ GaL.rfl ⟨rfl, ?_⟩
   simp -dsimp only [Vm.G, zA, zB, zC, zD, zE, zF, q122.1]
   refine call_one (S := numsSpec) rfl _ GaL.rfl ⟨68, 1, 4, key, val, by decide, hk, hv, rfl, fun l hl => ?_, fun hl => ?_, fun hl l => ?_⟩
   · simp -dsimp only [Vm.G, zA, zB, zC, zD, zE, zF, q122.1]
     exact ⟨rfl, .inl ⟨l, hl, rfl, trivial⟩⟩
   · simp -dsimp only [Vm.G, zA, zB, zC, zD, zE, zF, q122.1]
     exact ⟨rfl, .inr ⟨hl, trivial⟩⟩
   · simp -dsimp only [Vm.G, zA, zB, zC, zD, zE, zF, q122.1]
     exact ⟨rfl, .inr ⟨hl, trivial⟩⟩
 · rintro s h' ⟨rfl, hs2, ⟨l, hl, hs4, hs5⟩ | ⟨hl, hs5⟩⟩
   · rw [hl] at hq1
     have hlen := numsPair_length hl
     have hq1' := hq1 (dcOf l) rfl
     clear hq1 hq2 hl
     simp only [dcCells, Dc.zero] at hs2
     match l, hlen with
     | [a0, a1, a2, a3, a4], _ =>
     simp -dsimp only [Vm.G, zA, zB, zC, zD, zE, zF, q122.1, hs5]
     refine draw_cont [4] (.take 0 (.take 1 (.take 2 (.take 3 (.take 4 (.take 5 (.take 6 (.take 7 (.take 8 (.take 9 (.take 10 (.take 11 (.take 12 (.take 13 (.take 14 (.alt 15 (.alt 16 (.alt 17 (.done) .stop) .stop) .stop)))))))))))))))) (fun s h'' => h'' = h' ∧ s 2 = .box [.v (.int .i64 a0), .v (.int .i64 a1), .v (.int .i64 a2), .v (.int .i64 a3), .v (.int .i64 a4)] ∧ s 3 = .v (.bool true)) (by kernel_rfl) (by kernel_rfl) (by kernel_rfl) (by decide) ?_ ?_
     · simp -dsimp only [Vm.G, zA, zB, zC, zD, zE, zF, q122.1, idx_lit, idxE_some, Int.reduceToNat, Int.reduceLE, decide_true, eq_self, hs2, hs4, hs5, encI]
       repeat' first | rfl | exact True.intro | refine And.intro ?_ ?_
     · rintro s2 h2 ⟨rfl, g2, g3⟩
       simp -dsimp only [Vm.G, zA, zB, zC, zD, zE, zF, q122.1, g2, g3]
       exact hq1'
   · rw [hl] at hq2
     simp only [dcCells, Dc.zero] at hs2
     simp -dsimp only [Vm.G, zA, zB, zC, zD, zE, zF, q122.1, hs2, hs5]
     exact hq2 rfl
def lineOfSpec : Vm.Spec := fun args h Q => ∃ key val : List UInt8, key.length ≤ 4611686018427387904 ∧ val.length ≤ 4611686018427387904 ∧ args = [.agg [.sl 1 (key.map encB), .sl 1 (val.map encB)]] ∧
 (∀ d, lineOf key val = some d → Q (.tup [.agg (dlCells d), .v (.bool true)]) h) ∧ (lineOf key val = none → Q (.tup [.agg (dlCells .zero), .v (.bool false)]) h)
theorem does_lineOf : Does Tryz.prog 123 lineOfSpec := by
 refine dA (good_cons does_docLines (good_cons does_nums good_nil)) Tryz.func123 rfl (by decide +kernel) ?_
 rintro args h Q ⟨key, val, hk, hv, rfl, hq1, hq2⟩
 refine ⟨by simp [Tryz.f123], ?_⟩
 unfold lineOf at hq1 hq2
 simp only [dlCells, Dl.zero] at hq2
 simp -dsimp only [Vm.G, zA, zB, zC, zD, zE, zF, q123.1]
 refine draw_cont [1] (.take 1 (.alt 0 (.alt 2 (.take 3 (.take 4 (.take 5 (.alt 6 (.alt 7 (.done) .stop) .stop)))) .stop) .stop)) (fun s h' => h' = h ∧ s 2 = .box (dlCells .zero) ∧ ((∃ l, numsPair 76 2 4 key val = some l ∧ s 4 = .own true 3 1 (l.map encI) ∧ s 5 = .v (.bool true)) ∨ (numsPair 76 2 4 key val = none ∧ s 5 = .v (.bool false)))) (by kernel_rfl) (by kernel_rfl) (by kernel_rfl) (by decide) ?_ ?_
 · simp -dsimp only [Vm.G, zA, zB, zC, zD, zE, zF, q123.1]
   refine call_one (S := tabSpec 76 2 4) rfl _ GaL.rfl ⟨rfl, ?_⟩
   simp -dsimp only [Vm.G, zA, zB, zC, zD, zE, zF, q123.1]
   refine call_one (S := numsSpec) rfl _ GaL.rfl ⟨76, 2, 4, key, val, by decide, hk, hv, rfl, fun l hl => ?_, fun hl => ?_, fun hl l => ?_⟩
   · simp -dsimp only [Vm.G, zA, zB, zC, zD, zE, zF, q123.1]
     exact ⟨rfl, .inl ⟨l, hl, rfl, trivial⟩⟩
   · simp -dsimp only [Vm.G, zA, zB, zC, zD, zE, zF, q123.1]
     exact ⟨rfl, .inr ⟨hl, trivial⟩⟩
   · simp -dsimp only [Vm.G, zA, zB, zC, zD, zE, zF, q123.1]
     exact ⟨rfl, .inr ⟨hl, trivial⟩⟩
 · rintro s h' ⟨rfl, hs2, ⟨l, hl, hs4, hs5⟩ | ⟨hl, hs5⟩⟩
   · rw [hl] at hq1
     have hlen := numsPair_length hl
     have hq1' := hq1 (dlOf l) rfl
     clear hq1 hq2 hl
     simp only [dlCells, Dl.zero] at hs2
     match l, hlen with
     | [a0, a1, a2, a3, a4, a5], _ =>
     simp -dsimp only [Vm.G, zA, zB, zC, zD, zE, zF, q123.1, hs5]
     refine draw_cont [4] (.take 0 (.take 1 (.take 2 (.take 3 (.take 4 (.take 5 (.take 6 (.take 7 (.take 8 (.take 9 (.take 10 (.take 11 (.alt 12 (.alt 13 (.alt 14 (.done) .stop) .stop) .stop))))))))))))) (fun s h'' => h'' = h' ∧ s 2 = .box [.v (.int .i64 a2), .v (.int .i64 a3), .v (.int .i64 a4), .v (.int .i64 a5)] ∧ s 3 = .v (.bool true)) (by kernel_rfl) (by kernel_rfl) (by kernel_rfl) (by decide) ?_ ?_
     · simp -dsimp only [Vm.G, zA, zB, zC, zD, zE, zF, q123.1, idx_lit, idxE_some, Int.reduceToNat, Int.reduceLE, decide_true, eq_self, hs2, hs4, hs5, encI]
       repeat' first | rfl | exact True.intro | refine And.intro ?_ ?_
     · rintro s2 h2 ⟨rfl, g2, g3⟩
       simp -dsimp only [Vm.G, zA, zB, zC, zD, zE, zF, q123.1, g2, g3]
       exact hq1'
   · rw [hl] at hq2
     simp only [dlCells, Dl.zero] at hs2
     simp -dsimp only [Vm.G, zA, zB, zC, zD, zE, zF, q123.1, hs2, hs5]
     exact hq2 rfl
def fetchSpec : Vm.Spec := fun args h Q => ∃ (V : VId) (f : Fun) (tag : UInt8) (l : List Int), l.length ≤ 15 ∧ args = [.agg [.ptr V.iv 0], .v (.int .u8 tag.toNat), .sl 1 (l.map encI)] ∧ isView h V f ∧
 (∀ v, f (keyOf tag l) = some v → Q (.tup [.agg [.sl 1 ((keyOf tag l).map encB), .sl 1 (v.map encB)], .v (.bool true)]) h) ∧ (f (keyOf tag l) = none → Q (.tup [.agg [.sl 1 ((keyOf tag l).map encB), .sl 1 []], .v (.bool false)]) h)
theorem does_fetch : Does Tryz.prog 121 fetchSpec := by
 refine dA (good_cons does_key (good_cons does_vgetW good_nil)) Tryz.func121 rfl (by decide +kernel) ?_
 rintro args h Q ⟨V, f, tag, l, hl, rfl, hV, hq1, hq2⟩
 refine ⟨by simp [Tryz.f121], ?_⟩
 simp -dsimp only [Vm.G, zA, zB, zC, zD, zE, zF, q121.1]
 refine call_one (S := keySpec) rfl _ GaL.rfl ⟨tag, l, by omega, rfl, ?_⟩
 simp -dsimp only [Vm.G, zA, zB, zC, zD, zE, zF, q121.1]
 refine call_one (S := vgetWSpec) rfl _ GaL.rfl ⟨V, f, keyOf tag l, rfl, hV, fun v hf => ?_, fun hf => ?_⟩
 · simp -dsimp only [Vm.G, zA, zB, zC, zD, zE, zF, q121.1]
   exact hq1 v hf
 · simp -dsimp only [Vm.G, zA, zB, zC, zD, zE, zF, q121.1]
   exact hq2 hf
def headOk (id : Int) (d : Dc) : Bool := (d.id == id) && (decide (d.lines ≥ 1) && decide (d.lines ≤ 6))
def docHead (f : Fun) (id : Int) : Option Dc := (f (dcK id)).bind fun v => (docOf (dcK id) v).bind fun d => if headOk id d then some d else none
def lineAt (f : Fun) (id i : Int) : Option Dl := (f (dlK id i)).bind fun v => lineOf (dlK id i) v
def docSpec : Vm.Spec := fun args h Q => ∃ (V : VId) (f : Fun) (id : Int), args = [.agg [.ptr V.iv 0], .v (.int .i64 id)] ∧ isView h V f ∧
 (∀ d, docHead f id = some d → Q (.tup [.agg (dcCells d), .v (.bool true)]) h) ∧ (docHead f id = none → ∀ d : Dc, Q (.tup [.agg (dcCells d), .v (.bool false)]) h)
theorem does_doc : Does Tryz.prog 47 docSpec := by
 refine dA (good_cons does_fetch (good_cons does_docOf good_nil)) Tryz.func47 rfl (by decide +kernel) ?_
 rintro args h Q ⟨V, f, id, rfl, hV, hq1, hq2⟩
 refine ⟨by simp [Tryz.f47], ?_⟩
 have hk := dcK_length id
 unfold docHead at hq1 hq2
 simp -dsimp only [Vm.G, zA, zB, zC, zD, zE, zF, q47.1]
 refine bs_intro zr3 (by decide) (by decide) rfl rfl (by simp [solid, AV.cells]) ?_
 simp -dsimp only [Vm.G, zA, zB, zC, zD, zE, zF, q47.1]
 refine call_one (S := fetchSpec) rfl _ GaL.rfl ⟨V, f, 68, [id], by simp, rfl, hV, fun v hf => ?_, fun hf => ?_⟩
 · have hvl := hV.len _ _ hf
   have hf : f (dcK id) = some v := hf
   rw [hf] at hq1 hq2
   simp only [zNb] at hq1 hq2
   have ek : keyOf 68 [id] = dcK id := rfl
   simp -dsimp only [Vm.G, zA, zB, zC, zD, zE, zF, q47.1, ek]
   generalize dcK id = key at hk hq1 hq2
   refine call_one (S := docOfSpec) rfl _ GaL.rfl ⟨key, v, by omega, by omega, rfl, fun d hd => ?_, fun hd => ?_⟩
   · rw [hd] at hq1 hq2
     simp only [zNb] at hq1 hq2
     simp only [dcCells] at hq1 hq2 ⊢
     simp -dsimp only [Vm.G, zA, zB, zC, zD, zE, zF, q47.1]
     refine draw_cont [8] (.take 0 (.take 1 (.take 2 (.take 3 (.take 5 (.alt 4 (.take 6 (.take 7 (.take 8 (.take 9 (.alt 10 (.take 11 (.take 12 (.take 13 (.take 14 (.alt 15 (.take 16 (.take 17 (.alt 18 (.alt 19 (.done) .stop) .stop))) (.alt 18 (.alt 15 (.take 16 (.take 17 (.alt 19 (.done) .stop))) .stop) (.stop))))))) .stop))))) .stop)))))) (fun s h2 => h2 = h ∧ s 4 = .box [.v (.int .i64 d.id), .v (.int .i64 d.kind), .v (.int .i64 d.year), .v (.int .i64 d.frm), .v (.int .i64 d.lines)] ∧ s 5 = .v (.bool (headOk id d))) (by kernel_rfl) (by kernel_rfl) (by kernel_rfl) (by decide) ?_ ?_
     · clear hq1 hq2
       unfold headOk
       have h1 := zTa (d.id == id)
       rcases h1 with c1 | c1
       · have h2 := zTa (decide (d.lines ≥ 1))
         rcases h2 with c2 | c2
         · repeat' first
             | with_reducible exact True.intro
             | simp -dsimp only [Vm.G, zA, zB, zC, zD, zE, zF, q47.1, c1, c2, Bool.true_and]
             | refine tree_alt ?_ ?_
             | repeat' first | rfl | exact True.intro | refine And.intro ?_ ?_
         · repeat' first
             | with_reducible exact True.intro
             | simp -dsimp only [Vm.G, zA, zB, zC, zD, zE, zF, q47.1, c1, c2, Bool.true_and, Bool.false_and]
             | refine tree_alt ?_ ?_
             | repeat' first | rfl | exact True.intro | refine And.intro ?_ ?_
       · repeat' first
           | with_reducible exact True.intro
           | simp -dsimp only [Vm.G, zA, zB, zC, zD, zE, zF, q47.1, c1, Bool.false_and]
           | refine tree_alt ?_ ?_
           | repeat' first | rfl | exact True.intro | refine And.intro ?_ ?_
     · rintro s h2 ⟨rfl, e4, e5⟩
       have hd2 := zTa (headOk id d)
       rcases hd2 with c | c
       · rw [c] at e5
         simp -dsimp only [Vm.G, zA, zB, zC, zD, zE, zF, q47.1, e4, e5]
         exact hq1 d (if_pos c)
       · rw [c] at e5
         simp -dsimp only [Vm.G, zA, zB, zC, zD, zE, zF, q47.1, e4, e5]
         exact hq2 (if_neg (by rw [c]; decide)) d
   · rw [hd] at hq2
     have hq := hq2 rfl .zero
     simp only [dcCells, Dc.zero] at hq ⊢
     simp -dsimp only [Vm.G, zA, zB, zC, zD, zE, zF, q47.1]
     refine draw_cont [8] (.take 0 (.take 1 (.take 2 (.take 3 (.take 5 (.alt 4 (.take 6 (.take 7 (.take 8 (.take 9 (.alt 10 (.take 11 (.take 12 (.take 13 (.take 14 (.alt 15 (.take 16 (.take 17 (.alt 18 (.alt 19 (.done) .stop) .stop))) (.alt 18 (.alt 15 (.take 16 (.take 17 (.alt 19 (.done) .stop))) .stop) (.stop))))))) .stop))))) .stop)))))) (fun s h2 => h2 = h ∧ s 4 = .box [.v (.int .i64 0), .v (.int .i64 0), .v (.int .i64 0), .v (.int .i64 0), .v (.int .i64 0)] ∧ s 5 = .v (.bool false)) (by kernel_rfl) (by kernel_rfl) (by kernel_rfl) (by decide) ?_ ?_
     · clear hq1 hq2 hq
       repeat' first
         | with_reducible exact True.intro
         | simp -dsimp only [Vm.G, zA, zB, zC, zD, zE, zF, q47.1]
         | refine tree_alt ?_ ?_
         | repeat' first | rfl | exact True.intro | refine And.intro ?_ ?_
     · rintro s h2 ⟨rfl, e4, e5⟩
       simp -dsimp only [Vm.G, zA, zB, zC, zD, zE, zF, q47.1, e4, e5]
       exact hq
 · have hf : f (dcK id) = none := hf
   rw [hf] at hq2
   have hq := hq2 rfl .zero
   simp only [dcCells, Dc.zero] at hq
   simp -dsimp only [Vm.G, zA, zB, zC, zD, zE, zF, q47.1]
   exact hq
def dlineSpec : Vm.Spec := fun args h Q => ∃ (V : VId) (f : Fun) (id i : Int), args = [.agg [.ptr V.iv 0], .v (.int .i64 id), .v (.int .i64 i)] ∧ isView h V f ∧
 (∀ d, lineAt f id i = some d → Q (.tup [.agg (dlCells d), .v (.bool true)]) h) ∧ (lineAt f id i = none → Q (.tup [.agg (dlCells .zero), .v (.bool false)]) h)
theorem does_dline : Does Tryz.prog 48 dlineSpec := by
 refine dA (good_cons does_fetch (good_cons does_lineOf good_nil)) Tryz.func48 rfl (by decide +kernel) ?_
 rintro args h Q ⟨V, f, id, i, rfl, hV, hq1, hq2⟩
 refine ⟨by simp [Tryz.f48], ?_⟩
 have hk := dlK_length id i
 unfold lineAt at hq1 hq2
 simp only [dlCells, Dl.zero] at hq2
 simp -dsimp only [Vm.G, zA, zB, zC, zD, zE, zF, q48.1]
 refine bs_intro zr3 (by decide) (by decide) rfl rfl (by simp [solid, AV.cells]) ?_
 simp -dsimp only [Vm.G, zA, zB, zC, zD, zE, zF, q48.1]
 refine call_one (S := fetchSpec) rfl _ GaL.rfl ⟨V, f, 76, [id, i], by simp, rfl, hV, fun v hf => ?_, fun hf => ?_⟩
 · have hvl := hV.len _ _ hf
   have hf : f (dlK id i) = some v := hf
   rw [hf] at hq1 hq2
   simp only [zNb] at hq1 hq2
   have ek : keyOf 76 [id, i] = dlK id i := rfl
   simp -dsimp only [Vm.G, zA, zB, zC, zD, zE, zF, q48.1, ek]
   generalize dlK id i = key at hk hq1 hq2
   refine call_one (S := lineOfSpec) rfl _ GaL.rfl ⟨key, v, by omega, by omega, rfl, fun d hd => ?_, fun hd => ?_⟩
   · have hq := hq1 d hd
     simp only [dlCells] at hq ⊢
     simp -dsimp only [Vm.G, zA, zB, zC, zD, zE, zF, q48.1]
     exact hq
   · have hq := hq2 hd
     simp only [dlCells, Dl.zero]
     simp -dsimp only [Vm.G, zA, zB, zC, zD, zE, zF, q48.1]
     exact hq
 · have hf : f (dlK id i) = none := hf
   rw [hf] at hq2
   simp -dsimp only [Vm.G, zA, zB, zC, zD, zE, zF, q48.1]
   exact hq2 rfl
def linesAt (f : Fun) (id : Int) : Nat → Option (List Dl)
 | 0 => some []
 | n + 1 => (linesAt f id n).bind fun l => (lineAt f id n).map fun x => l ++ [x]
theorem linesAt_length {f : Fun} {id : Int} : ∀ {n : Nat} {l : List Dl}, linesAt f id n = some l → l.length = n
 | 0, l, h => by cases h; rfl
 | n + 1, l, h => by
   unfold linesAt at h
   cases h1 : linesAt f id n with
   | none => rw [h1] at h; cases h
   | some l1 =>
     rw [h1] at h
     cases h2 : lineAt f id n with
     | none => rw [zNb, h2] at h; cases h
     | some x =>
       rw [zNb, h2] at h
       cases h
       simp [linesAt_length h1]
theorem linesAt_none {f : Fun} {id : Int} : ∀ {n m : Nat}, n ≤ m → linesAt f id n = none → linesAt f id m = none
 | n, 0, hle, h => by
   obtain rfl : n = 0 := by omega
   exact h
 | n, m + 1, hle, h => by
   by_cases e : n = m + 1
   · subst e; exact h
   · have := linesAt_none (m := m) (by omega) h
     unfold linesAt
     rw [this]; rfl
def docAt (f : Fun) (id : Int) : Option (Dc × List Dl) := (docHead f id).bind fun d => (linesAt f id d.lines.toNat).map fun l => (d, l)
def docsGetSpec : Vm.Spec := fun args h Q => ∃ (V : VId) (f : Fun) (id : Int), args = [.ptr V.iv 0, .v (.int .i64 id)] ∧ isView h V f ∧
 (∀ d l, docAt f id = some (d, l) → l.length ≤ 6 → d.lines = l.length → Q (.otup 1 true 48 4 (l.map dlAv) [.agg (dcCells d), .any, .v (.bool true)]) h) ∧
 (docAt f id = none → Q (.tup [.agg (dcCells .zero), .v (.slice none 0 0), .v (.bool false)]) h)
theorem headOk_iff {id : Int} {d : Dc} : headOk id d = true ↔ d.id = id ∧ 1 ≤ d.lines ∧ d.lines ≤ 6 := by
 simp [headOk]
theorem docHead_ok {f : Fun} {id : Int} {d : Dc} (h : docHead f id = some d) : d.id = id ∧ 1 ≤ d.lines ∧ d.lines ≤ 6 := by
 unfold docHead at h
 cases h1 : f (dcK id) with
 | none => rw [h1] at h; cases h
 | some v =>
   rw [h1, zNb] at h
   cases h2 : docOf (dcK id) v with
   | none => rw [h2] at h; cases h
   | some d2 =>
     rw [h2, zNb] at h
     split at h
     · rename_i hc; cases h; exact headOk_iff.1 hc
     · cases h
theorem does_docsGet : Does Tryz.prog 16 docsGetSpec := by
 refine does_of_awpO 1 (good_cons does_doc (good_cons does_dline good_nil)) Tryz.func16 rfl (by decide +kernel) (by decide +kernel) ?_
 rintro args h Q ⟨V, f, id, rfl, hV, hq1, hq2⟩
 refine ⟨by simp [Tryz.f16], ?_⟩
 rw [awpFuncO_some (by rfl)]
 unfold docAt at hq1 hq2
 simp only [dcCells, Dc.zero] at hq2
 simp -dsimp only [Vm.G, zA, zB, zC, zD, zE, zF, q16.1]
 refine call_one (S := docSpec) rfl _ GaL.rfl ⟨V, f, id, rfl, hV, fun d hd => ?_, fun hd d => ?_⟩
 · rw [hd] at hq1 hq2
   simp only [zNb] at hq1 hq2
   obtain ⟨-, hd1, hd2⟩ := docHead_ok hd
   simp only [dcCells] at hq1 ⊢
   have hn : ∃ n : Nat, d.lines = n ∧ 1 ≤ n ∧ n ≤ 6 := ⟨d.lines.toNat, by omega, by omega, by omega⟩
   rcases hn with ⟨n, hn, hn1, hn6⟩
   have htn : d.lines.toNat = n := by omega
   rw [htn] at hq1 hq2
   have cz : cst (.agg #[.int .i64 0, .int .i64 0, .int .i64 0, .int .i64 0]) = dlAv .zero := by simp [cst, plain, dlAv, dlCells, Dl.zero]
   simp -dsimp only [Vm.G, zA, zB, zC, zD, zE, zF, q16.1, hn]
   refine make_intro ei43 z48 (.inr ⟨_, rfl, by simp [plain]⟩) (by omega) (Int.le_refl _) (by omega) (by omega) ?_
   rw [cz, zNa]
   simp -dsimp only [Vm.G, zA, zB, zC, zD, zE, zF, q16.1, List.length_replicate]
   refine awp_loop (fun m s h' => ∃ (i : Nat) (l : List Dl), i + m = n ∧ h' = h ∧ linesAt f id i = some l ∧ s = mk [(1, .v (.int .i64 id)), (7, .box [.ptr V.iv 0]), (8, .box [.v (.int .i64 d.id), .v (.int .i64 d.kind), .v (.int .i64 d.year), .v (.int .i64 d.frm), .v (.int .i64 d.lines)]), (10, .own true 48 4 ((l).map dlAv ++ List.replicate (n - (i)) (dlAv .zero))), (29, .v (.int .i64 (n : Nat))), (30, .v (.int .i64 (i : Nat))), (4, .box [.v (.int .i64 0), .v (.int .i64 0), .v (.int .i64 0), .v (.int .i64 0), .v (.int .i64 0)])])
     n _ (le_mk _ ?_) ⟨0, [], by omega, rfl, rfl, rfl⟩ ?_
   · simp only [Vm.D, zIb, zRb, Nat.sub_zero, hn]
     try simp -dsimp only [Vm.G, zA, zB, zC, zD, zE, zF, q16.1, zIb, zRb, Nat.sub_zero, hn]
     repeat' first | exact .refl _ | exact .nil _ _ _ (by decide) | refine ⟨?_, ?_⟩
   · rintro m s h' ⟨i, l, hi, rfl, hli, rfl⟩
     simp -dsimp only [Vm.G, zA, zB, zC, zD, zE, zF, q16.1]
     refine cond_intro (fun hcc => ?_) (fun hcc => ?_)
     · have hlt : i < n := by have := of_decide_eq_true hcc; omega
       have hw := hwN i (by omega)
       have hll := linesAt_length hli
       have hsuc : linesAt f id (i + 1) = (lineAt f id i).map fun x => l ++ [x] := by
         show (linesAt f id i).bind _ = _
         rw [hli]; rfl
       simp -dsimp only [Vm.G, zA, zB, zC, zD, zE, zF, q16.1]
       refine call_one (S := dlineSpec) rfl _ GaL.rfl ⟨V, f, id, (i : Nat), rfl, hV, fun x hx => ?_, fun hx => ?_⟩
       · rw [hx] at hsuc
         have hsuc : linesAt f id (i + 1) = some (l ++ [x]) := hsuc
         have hgi : (l.map dlAv ++ List.replicate (n - i) (dlAv .zero))[i]? = some (dlAv .zero) := by
           rw [zWa (by simp; omega), zIa, hll, Nat.sub_self, List.getElem?_replicate, if_pos (by omega)]
         have hre : (l.map dlAv ++ List.replicate (n - i) (dlAv .zero)).set i (dlAv x) = (l ++ [x]).map dlAv ++ List.replicate (n - (i + 1)) (dlAv .zero) := by
           rw [List.set_append_right _ _ (by simp; omega), zIa, hll, Nat.sub_self, show n - i = (n - (i + 1)) + 1 by omega, List.replicate_succ, List.set_cons_zero]
           simp
         simp only [dlCells]
         simp -dsimp only [Vm.G, zA, zB, zC, zD, zE, zF, q16.1]
         refine idxO_intro (by omega) (by simp; omega) ?_
         simp -dsimp only [Vm.G, zA, zB, zC, zD, zE, zF, q16.1, zNa]
         refine store_elt 48 _ (by simp -dsimp only [Vm.E, zA, zB, zC, zD, zE, zG, zH]) (y := dlAv .zero) hgi rfl rfl (by omega) rfl ?_
         simp only [dlAv, dlCells, AV.cells, putCells, reCell, List.take_zero, zRb, zKa, zMa, Nat.zero_add, Nat.reduceAdd, List.drop_succ_cons, zSb, zLa, List.drop_nil]
         simp only [dlAv, dlCells] at hre
         simp -dsimp only [Vm.G, zA, zB, zC, zD, zE, zF, q16.1, hre]
         refine kept_intro ⟨n - (i + 1), by omega, _, le_mk [(1, .v (.int .i64 id)), (7, .box [.ptr V.iv 0]), (8, .box [.v (.int .i64 d.id), .v (.int .i64 d.kind), .v (.int .i64 d.year), .v (.int .i64 d.frm), .v (.int .i64 d.lines)]), (10, .own true 48 4 ((l ++ [x]).map dlAv ++ List.replicate (n - (i + 1)) (dlAv .zero))), (29, .v (.int .i64 (n : Nat))), (30, .v (.int .i64 (i + 1 : Nat))), (4, .box [.v (.int .i64 0), .v (.int .i64 0), .v (.int .i64 0), .v (.int .i64 0), .v (.int .i64 0)])] ?_, i + 1, l ++ [x], by omega, rfl, hsuc, rfl⟩
         simp only [Vm.D, hw, dlAv, dlCells]
         try simp -dsimp only [Vm.G, zA, zB, zC, zD, zE, zF, q16.1, hw, dlAv, dlCells]
         repeat' first | exact .refl _ | exact .nil _ _ _ (by decide) | refine ⟨?_, ?_⟩
       · rw [hx] at hsuc
         rw [linesAt_none (m := n) (by omega) hsuc] at hq2
         simp only [dlCells]
         simp -dsimp only [Vm.G, zA, zB, zC, zD, zE, zF, q16.1]
         exact hq2 rfl
     · have hge : ¬ i < n := by have := of_decide_eq_false hcc; omega
       obtain rfl : i = n := by omega
       rw [hli] at hq1
       have hll := linesAt_length hli
       have hq := hq1 d l rfl (by omega) (by omega)
       clear hq1 hq2
       rw [Nat.sub_self, List.replicate_zero, zLa]
       simp -dsimp only [Vm.G, zA, zB, zC, zD, zE, zF, q16.1]
       exact hq
 · rw [hd] at hq2
   simp only [dcCells]
   simp -dsimp only [Vm.G, zA, zB, zC, zD, zE, zF, q16.1]
   exact hq2 rfl
def docsSet (f : Fun) (id i : Int) (x : Dl) : Fun × Int := match docAt f id with
 | some (_, l) => if 0 ≤ i ∧ i < l.length then (upd f (dlK id i) (some (dlV x)), 0) else (f, 7)
 | none => (f, 7)
theorem docsSet_n (f : Fun) (id i : Int) (x : Dl) : (docsSet f id i x).1.n ≤ f.n + 1 := by
 unfold docsSet
 repeat' split
 all_goals first | exact Nat.le_succ _ | exact Nat.le_refl _
def docsSetSpec : Vm.Spec := fun args h Q => ∃ (V : VId) (f : Fun) (id i : Int) (x : Dl), I64 id ∧ I64 i ∧ x.ok ∧ args = [.ptr V.iv 0, .v (.int .i64 id), .v (.int .i64 i), dlAv x] ∧ isView h V f ∧
 ∀ h', isView h' V (docsSet f id i x).1 → Same h h' [V.ic] → Q (.v (.int .i64 (docsSet f id i x).2)) h'
theorem does_docsSet : Does Tryz.prog 106 docsSetSpec := by
 refine dA (good_cons does_docsGet (good_cons does_recDl (good_cons does_dset good_nil))) Tryz.func106 rfl (by decide +kernel) ?_
 rintro args h Q ⟨V, f, id, i, x, hid, hii, hx, rfl, hV, hq⟩
 refine ⟨by simp [Tryz.f106], ?_⟩
 unfold docsSet at hq
 simp only [dlAv, dlCells]
 simp -dsimp only [Vm.G, zA, zB, zC, zD, zE, zF, q106.1]
 refine call_one (S := docsGetSpec) rfl _ GaL.rfl ⟨V, f, id, rfl, hV, fun d l hd hl6 hdl => ?_, fun hd => ?_⟩
 · rw [hd] at hq
   simp only [dcCells] at hq ⊢
   simp -dsimp only [Vm.G, zA, zB, zC, zD, zE, zF, q106.1]
   have hd1 := zTa (decide (i < 0))
   rcases hd1 with c1 | c1
   · have d1 := of_decide_eq_true c1
     rw [if_neg (by omega)] at hq
     simp -dsimp only [Vm.G, zA, zB, zC, zD, zE, zF, q106.1, c1]
     exact hq h hV (.refl _ _)
   · have d1 := of_decide_eq_false c1
     have hd2 := zTa (decide (i ≥ (l.length : Int)))
     rcases hd2 with c2 | c2
     · have d2 := of_decide_eq_true c2
       rw [if_neg (by omega)] at hq
       simp -dsimp only [Vm.G, zA, zB, zC, zD, zE, zF, q106.1, c1, c2, zIa]
       exact hq h hV (.refl _ _)
     · have d2 := of_decide_eq_false c2
       rw [if_pos (by omega)] at hq
       simp -dsimp only [Vm.G, zA, zB, zC, zD, zE, zF, q106.1, c1, c2, zIa]
       refine call_one (S := rdlSpec) rfl _ GaL.rfl ⟨id, i, x, hid, hii, hx, rfl, ?_⟩
       simp -dsimp only [Vm.G, zA, zB, zC, zD, zE, zF, q106.1]
       refine call_one (S := dsetSpec) rfl _ GaL.rfl ⟨V, f, dlK id i, dlV x, rfl, right_dl id i x, hV, fun h2 g1 g2 => ?_⟩
       simp -dsimp only [Vm.G, zA, zB, zC, zD, zE, zF, q106.1]
       exact hq h2 g1 g2
 · rw [hd] at hq
   simp only [dcCells, Dc.zero] at hq ⊢
   simp -dsimp only [Vm.G, zA, zB, zC, zD, zE, zF, q106.1]
   exact hq h hV (.refl _ _)
def openD (x : Dl) : Int := w64 (x.orig - w64 (x.liq + x.can))
def openDSpec : Vm.Spec := fun args h Q => ∃ x : Dl, args = [dlAv x] ∧ Q (.v (.int .i64 (openD x))) h
theorem does_docsOpen : Does Tryz.prog 49 openDSpec := by
 refine dA good_nil Tryz.func49 rfl (by decide +kernel) ?_
 rintro args h Q ⟨x, rfl, hq⟩
 refine ⟨by simp [Tryz.f49], ?_⟩
 simp only [dlAv, dlCells]
 simp -dsimp only [Vm.G, zA, zB, zC, zD, zE, zF, q49.1]
 exact hq
def inD (n : Int) : Bool := decide (n ≥ 0) && decide (n ≤ 1152921504606846976)
def rightD (x : Dl) : Bool := inD x.orig && (inD x.liq && (inD x.can && inD (openD x)))
def rightDSpec : Vm.Spec := fun args h Q => ∃ x : Dl, args = [dlAv x] ∧ Q (.v (.bool (rightD x))) h
def fourD (x : Dl) : List Int := [x.orig, x.liq, x.can, openD x]
theorem rightD_four (x : Dl) : rightD x = (fourD x).all inD := by
 unfold rightD fourD
 simp [List.all_cons]
theorem does_docsRight : Does Tryz.prog 17 rightDSpec := by
 refine dA (good_cons does_docsOpen good_nil) Tryz.func17 rfl (by decide +kernel) ?_
 rintro args h Q ⟨x, rfl, hq⟩
 refine ⟨by simp [Tryz.f17], ?_⟩
 rw [rightD_four] at hq
 simp only [dlAv, dlCells]
 simp -dsimp only [Vm.G, zA, zB, zC, zD, zE, zF, q17.1]
 refine draw_cont [1] (.take 0 (.take 1 (.take 2 (.take 3 (.take 4 (.take 5 (.take 6 (.take 9 (.alt 7 (.alt 8 (.done) .stop) .stop))))))))) (fun s h2 => h2 = h ∧ s 2 = .v (.bool false) ∧ s 13 = .agg ((fourD x).map encI) ∧ s 14 = .v (.int .i64 0)) (by kernel_rfl) (by kernel_rfl) (by kernel_rfl) (by decide) ?_ ?_
 · clear hq
   simp only [fourD, zVa, zIb, encI]
   repeat' first
     | with_reducible exact True.intro
     | refine call_one (S := openDSpec) rfl _ GaL.rfl ⟨x, rfl, ?_⟩
     | simp -dsimp only [Vm.G, zA, zB, zC, zD, zE, zF, q17.1]
     | refine tree_alt ?_ ?_
     | repeat' first | rfl | exact True.intro | refine And.intro ?_ ?_
 · rintro s h2 ⟨rfl, e2, e13, e14⟩
   have h4 : (fourD x).length = 4 := rfl
   generalize fourD x = l at h4 hq e13
   simp -dsimp only [Vm.G, zA, zB, zC, zD, zE, zF, q17.1, e2, e13, e14]
   refine awp_loop (fun m s h' => ∃ i : Nat, i + m = 4 ∧ h' = h2 ∧ (∀ j (hj : j < l.length), j < i → inD l[j] = true) ∧ s = mk [(2, .v (.bool false)), (13, .agg (l.map encI)), (14, .v (.int .i64 (i : Nat)))])
     4 _ (le_mk _ ?_) ⟨0, by omega, rfl, fun j _ hj => by omega, rfl⟩ ?_
   · simp only [Vm.D, e2, e13, e14]
     try simp -dsimp only [Vm.G, zA, zB, zC, zD, zE, zF, q17.1, e2, e13, e14]
     repeat' first | exact .refl _ | exact .nil _ _ _ (by decide) | refine ⟨?_, ?_⟩
   · clear e2 e13 e14
     rintro m s h' ⟨i, hi, rfl, hb, rfl⟩
     simp -dsimp only [Vm.G, zA, zB, zC, zD, zE, zF, q17.1]
     refine cond_intro (fun hcc => ?_) (fun hcc => ?_)
     · have hlt : i < l.length := by have := of_decide_eq_true hcc; omega
       have hw := hwN i (by omega)
       have hget : (l.map encI)[(i : Int).toNat]? = some (encI l[i]) := by simp [hlt]
       have hno : inD l[i] = false → l.all inD = false := fun hp => List.all_eq_false.2 ⟨l[i], zJb hlt, by rw [hp]; decide⟩
       have hyes : inD l[i] = true → ∀ j (hj : j < l.length), j < i + 1 → inD l[j] = true := fun hp j hj hj2 => by
         by_cases hji : j = i
         · subst hji; exact hp
         · exact hb j hj (by omega)
       generalize l[i] = n at hget hno hyes
       simp only [encI] at hget
       simp -dsimp only [Vm.G, zA, zB, zC, zD, zE, zF, q17.1]
       refine index_arr un102 un3 (by kernel_rfl) (by omega) (by omega) hget ?_
       simp -dsimp only [Vm.G, zA, zB, zC, zD, zE, zF, q17.1]
       have hd1 := zTa (decide (n < 0))
       rcases hd1 with c1 | c1
       · have d1 := of_decide_eq_true c1
         rw [hno (by unfold inD; rw [decide_eq_false (p := n ≥ 0) (by omega)]; rfl)] at hq
         simp -dsimp only [Vm.G, zA, zB, zC, zD, zE, zF, q17.1, c1]
         exact hq
       · have d1 := of_decide_eq_false c1
         have hd2 := zTa (decide (n > 1152921504606846976))
         rcases hd2 with c2 | c2
         · have d2 := of_decide_eq_true c2
           rw [hno (by unfold inD; rw [decide_eq_true (p := n ≥ 0) (by omega), decide_eq_false (by omega)]; rfl)] at hq
           simp -dsimp only [Vm.G, zA, zB, zC, zD, zE, zF, q17.1, c1, c2]
           exact hq
         · have d2 := of_decide_eq_false c2
           have hin : inD n = true := by unfold inD; rw [decide_eq_true (p := n ≥ 0) (by omega), decide_eq_true (by omega)]; rfl
           simp -dsimp only [Vm.G, zA, zB, zC, zD, zE, zF, q17.1, c1, c2]
           refine kept_intro ⟨4 - (i + 1), by omega, _, le_mk [(2, .v (.bool false)), (13, .agg (l.map encI)), (14, .v (.int .i64 (i + 1 : Nat)))] ?_, i + 1, by omega, rfl, hyes hin, rfl⟩
           simp only [Vm.D, hw]
           try simp -dsimp only [Vm.G, zA, zB, zC, zD, zE, zF, q17.1, hw]
           repeat' first | exact .refl _ | exact .nil _ _ _ (by decide) | refine ⟨?_, ?_⟩
     · have hge : ¬ i < 4 := by have := of_decide_eq_false hcc; omega
       have hall : l.all inD = true := List.all_eq_true.2 fun y hy => by
         obtain ⟨j, hj, rfl⟩ := List.getElem_of_mem hy
         exact hb j hj (by omega)
       rw [hall] at hq
       simp -dsimp only [Vm.G, zA, zB, zC, zD, zE, zF, q17.1]
       exact hq
end Go.Proofs.Lx
