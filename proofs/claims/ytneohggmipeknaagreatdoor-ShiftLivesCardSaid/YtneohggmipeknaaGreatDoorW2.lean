/- What the functions of the program do: their contracts. -/
import Derived.Test.YtneohggmipeknaaGreatDoorV2
import Derived.Test.YtneohggmipeknaaGreatDoorTFs
import Derived.Test.YtneohggmipeknaaGreatDoorW1
import Derived.Test.YtneohggmipeknaaGreatDoorShelfSs
open List renaming lookup → zA, length_map → zJa, map_append → zKa, map_cons → zLa, length_cons → zMa, map_nil → zNa, length_nil → zOa, getElem?_set_ne → zPa, getElem_mem → zQa, getElem?_set_self → zRa, getElem?_eq_getElem → zTa, length_append → zUa, getElem_of_mem → zVa, getElem?_append_left → zXa, getElem?_append_right → zJb, drop_eq_getElem_cons → zLb, drop_zero → zNb, length_filterMap_le → zOb, length_set → zPb, length_filter_le → zQb
open Nat renaming reduceAdd → zB, reduceBEq → zC, reduceLeDiff → zF, le_add_right → zKb, le_refl → zMb
open Int renaming reduceBNe → zD, reduceBEq → zE, toNat_natCast → zWa
open Bool renaming true_beq → zG, false_beq → zH, eq_false_or_eq_true → zIa, false_and → zSa, and_false → zIb
open Option renaming bind_some → zYa
set_option maxRecDepth 20000
set_option maxHeartbeats 16000000
set_option linter.unusedSimpArgs false
set_option linter.unusedVariables false
namespace Go.Proofs.Lx
open Go.Vm
attribute [local irreducible] awpArr awpBin awpMake awpAppend awpCvX awpStrOf awpBinX awpSlice awpBS awpStore awpAlloc awpCopy awpIndex awpDraw awpIdxX awpFa awpField awpLookup awpUpdate awpDelete awpClear awpRange awpNext awpEntry awpBuild awpClearS awpIdxL awpTree appB awpIdxO eltA treeA
theorem does_rDl : Does Tryz.prog 182 rdlSpec := by
 refine dA (good_cons does_rPair good_nil) Tryz.func182 rfl (by decide +kernel) ?_
 rintro args h Q ⟨id, i, x, hid, hi, ⟨o1, o2, o3, o4⟩, rfl, hq⟩
 refine ⟨by simp [Tryz.f182], ?_⟩
 simp only [dlAv, dlCells]
 simp -dsimp only [Vm.G, zA, zB, zC, zD, zE, zF, q182.1]
 refine bs_intro zr3 (by decide) (by decide) rfl rfl (by simp [solid, AV.cells]) ?_
 simp -dsimp only [Vm.G, zA, zB, zC, zD, zE, zF, q182.1]
 refine bs_intro zr3 (by decide) (by decide) rfl rfl (by simp [solid, AV.cells]) ?_
 simp -dsimp only [Vm.G, zA, zB, zC, zD, zE, zF, q182.1]
 refine call_one (S := rPairSpec) rfl _ GaL.rfl ⟨76, [id, i], [x.node, x.orig, x.liq, x.can], by simp, by simp, ?_, rfl, ?_⟩
 · intro m hm
   simp only [List.mem_cons, List.not_mem_nil, or_false] at hm
   rcases hm with rfl | rfl | rfl | rfl <;> assumption
 · simp -dsimp only [Vm.G, zA, zB, zC, zD, zE, zF, q182.1]
   exact hq
theorem does_rDc : Does Tryz.prog 189 rdcSpec := by
 refine dA (good_cons does_rPair good_nil) Tryz.func189 rfl (by decide +kernel) ?_
 rintro args h Q ⟨d, ⟨o1, o2, o3, o4, o5⟩, rfl, hq⟩
 refine ⟨by simp [Tryz.f189], ?_⟩
 simp only [dcCells]
 simp -dsimp only [Vm.G, zA, zB, zC, zD, zE, zF, q189.1]
 refine bs_intro zr3 (by decide) (by decide) rfl rfl (by simp [solid, AV.cells]) ?_
 simp -dsimp only [Vm.G, zA, zB, zC, zD, zE, zF, q189.1]
 refine bs_intro zr3 (by decide) (by decide) rfl rfl (by simp [solid, AV.cells]) ?_
 simp -dsimp only [Vm.G, zA, zB, zC, zD, zE, zF, q189.1]
 refine call_one (S := rPairSpec) rfl _ GaL.rfl ⟨68, [d.id], [d.kind, d.year, d.frm, d.lines], by simp, by simp, ?_, rfl, ?_⟩
 · intro m hm
   simp only [List.mem_cons, List.not_mem_nil, or_false] at hm
   rcases hm with rfl | rfl | rfl | rfl <;> assumption
 · simp -dsimp only [Vm.G, zA, zB, zC, zD, zE, zF, q189.1]
   exact hq
def rDocOfSpec : Vm.Spec := fun args h Q => ∃ key val : List UInt8, key.length ≤ 1073741824 ∧ val.length ≤ 1073741824 ∧ args = [.agg [.sl 1 (key.map encB), .sl 1 (val.map encB)]] ∧
 (∀ d, docOf key val = some d → Q (.tup [.agg (dcCells d), .v (.bool true)]) h) ∧ (docOf key val = none → Q (.tup [.agg (dcCells .zero), .v (.bool false)]) h)
theorem does_rDocOf : Does Tryz.prog 177 rDocOfSpec := by
 refine dA (good_cons does_rBoth good_nil) Tryz.func177 rfl (by decide +kernel) ?_
 rintro args h Q ⟨key, val, hk, hv, rfl, hq1, hq2⟩
 refine ⟨by simp [Tryz.f177], ?_⟩
 unfold docOf at hq1 hq2
 rw [both_nums] at hq1 hq2
 simp only [dcCells, Dc.zero] at hq2
 simp -dsimp only [Vm.G, zA, zB, zC, zD, zE, zF, q177.1]
 refine call_one (S := rBothSpec) rfl _ GaL.rfl ⟨68, 1, 4, key, val, by omega, by omega, hk, hv, rfl, fun p hp => ?_, fun hp a b => ?_⟩
 · have hlen := both_length hp
   obtain ⟨kl, vl⟩ := p
   obtain ⟨hl1, hl2⟩ := hlen
   match kl, hl1 with
   | [k0], _ =>
   match vl, hl2 with
   | [b0, b1, b2, b3], _ =>
   rw [hp] at hq1
   have hq1' := hq1 _ rfl
   clear hq1 hq2 hp
   simp -dsimp only [Vm.G, zA, zB, zC, zD, zE, zF, q177.1]
   refine draw_cont [] (.take 0 (.take 1 (.take 2 (.take 3 (.take 4 (.take 5 (.take 6 (.take 7 (.take 8 (.take 9 (.take 10 (.take 11 (.take 12 (.take 13 (.take 14 (.alt 15 (.alt 16 (.alt 17 (.done) .stop) .stop) .stop)))))))))))))))) (fun s h2 => h2 = h ∧ s 2 = .box (dcCells ⟨k0, b0, b1, b2, b3⟩) ∧ s 3 = .v (.bool true)) (by kernel_rfl) (by kernel_rfl) (by kernel_rfl) (by decide) ?_ ?_
   · simp -dsimp only [Vm.G, zA, zB, zC, zD, zE, zF, q177.1, idx_lit, idxE_some, Int.reduceToNat, Int.reduceLE, decide_true, eq_self, encI]
     repeat' first | rfl | exact True.intro | refine And.intro ?_ ?_
   · rintro s h2 ⟨rfl, e2, e3⟩
     simp only [dcCells] at e2
     simp -dsimp only [Vm.G, zA, zB, zC, zD, zE, zF, q177.1, e2, e3]
     exact hq1'
 · rw [hp] at hq2
   simp -dsimp only [Vm.G, zA, zB, zC, zD, zE, zF, q177.1]
   exact hq2 rfl
def rLineOfSpec : Vm.Spec := fun args h Q => ∃ key val : List UInt8, key.length ≤ 1073741824 ∧ val.length ≤ 1073741824 ∧ args = [.agg [.sl 1 (key.map encB), .sl 1 (val.map encB)]] ∧
 (∀ d, lineOf key val = some d → Q (.tup [.agg (dlCells d), .v (.bool true)]) h) ∧ (lineOf key val = none → Q (.tup [.agg (dlCells .zero), .v (.bool false)]) h)
theorem does_rLineOf : Does Tryz.prog 227 rLineOfSpec := by
 refine dA (good_cons does_rBoth good_nil) Tryz.func227 rfl (by decide +kernel) ?_
 rintro args h Q ⟨key, val, hk, hv, rfl, hq1, hq2⟩
 refine ⟨by simp [Tryz.f227], ?_⟩
 unfold lineOf at hq1 hq2
 rw [both_nums] at hq1 hq2
 simp only [dlCells, Dl.zero] at hq2
 simp -dsimp only [Vm.G, zA, zB, zC, zD, zE, zF, q227.1]
 refine call_one (S := rBothSpec) rfl _ GaL.rfl ⟨76, 2, 4, key, val, by omega, by omega, hk, hv, rfl, fun p hp => ?_, fun hp a b => ?_⟩
 · have hlen := both_length hp
   obtain ⟨kl, vl⟩ := p
   obtain ⟨hl1, hl2⟩ := hlen
   match kl, hl1 with
   | [k0, k1], _ =>
   match vl, hl2 with
   | [b0, b1, b2, b3], _ =>
   rw [hp] at hq1
   have hq1' := hq1 _ rfl
   clear hq1 hq2 hp
   simp -dsimp only [Vm.G, zA, zB, zC, zD, zE, zF, q227.1]
   refine draw_cont [] (.take 0 (.take 1 (.take 2 (.take 3 (.take 4 (.take 5 (.take 6 (.take 7 (.take 8 (.take 9 (.take 10 (.take 11 (.alt 12 (.alt 13 (.alt 14 (.done) .stop) .stop) .stop))))))))))))) (fun s h2 => h2 = h ∧ s 2 = .box (dlCells ⟨b0, b1, b2, b3⟩) ∧ s 3 = .v (.bool true)) (by kernel_rfl) (by kernel_rfl) (by kernel_rfl) (by decide) ?_ ?_
   · simp -dsimp only [Vm.G, zA, zB, zC, zD, zE, zF, q227.1, idx_lit, idxE_some, Int.reduceToNat, Int.reduceLE, decide_true, eq_self, encI]
     repeat' first | rfl | exact True.intro | refine And.intro ?_ ?_
   · rintro s h2 ⟨rfl, e2, e3⟩
     simp only [dlCells] at e2
     simp -dsimp only [Vm.G, zA, zB, zC, zD, zE, zF, q227.1, e2, e3]
     exact hq1'
 · rw [hp] at hq2
   simp -dsimp only [Vm.G, zA, zB, zC, zD, zE, zF, q227.1]
   exact hq2 rfl
theorem lineOf_nil (key : List UInt8) : lineOf key [] = none := by
 unfold lineOf numsPair
 cases splitOf key with
 | none => rfl
 | some p => simp
theorem docOf_nil (key : List UInt8) : docOf key [] = none := by
 unfold docOf numsPair
 cases splitOf key with
 | none => rfl
 | some p => simp
def rlineSpec : Vm.Spec := fun args h Q => ∃ (R : RId) (f : Fun) (id i : Int), args = [.ptr R.iv 0, .v (.int .i64 id), .v (.int .i64 i)] ∧ isRef h R f ∧ f.n ≤ 536870912 ∧
 (∀ d, lineAt f id i = some d → Q (.tup [.agg (dlCells d), .v (.bool true)]) h) ∧ (lineAt f id i = none → Q (.tup [.agg (dlCells .zero), .v (.bool false)]) h)
theorem does_rline : Does Tryz.prog 178 rlineSpec := by
 refine dA (good_cons does_rKey (good_cons does_rGet (good_cons does_rLineOf good_nil))) Tryz.func178 rfl (by decide +kernel) ?_
 rintro args h Q ⟨R, f, id, i, rfl, hR, hfn, hq1, hq2⟩
 refine ⟨by simp [Tryz.f178], ?_⟩
 have hk := dlK_length id i
 unfold lineAt at hq1 hq2
 simp only [dlCells, Dl.zero] at hq2
 simp -dsimp only [Vm.G, zA, zB, zC, zD, zE, zF, q178.1]
 refine bs_intro zr3 (by decide) (by decide) rfl rfl (by simp [solid, AV.cells]) ?_
 simp -dsimp only [Vm.G, zA, zB, zC, zD, zE, zF, q178.1]
 refine call_one (S := keySpec) rfl _ GaL.rfl ⟨76, [id, i], by simp, rfl, ?_⟩
 have ek : keyOf 76 [id, i] = dlK id i := rfl
 simp -dsimp only [Vm.G, zA, zB, zC, zD, zE, zF, q178.1, ek]
 generalize dlK id i = key at hk hq1 hq2 ⊢
 refine call_one (S := rGetSpec) rfl _ GaL.rfl ⟨R, f, key, rfl, hR, hfn, fun v hf => ?_, fun hf => ?_⟩
 · have hvl := (hR.len hf).2
   rw [hf] at hq1 hq2
   simp only [zYa] at hq1 hq2
   simp -dsimp only [Vm.G, zA, zB, zC, zD, zE, zF, q178.1]
   refine call_one (S := rLineOfSpec) rfl _ GaL.rfl ⟨key, v, by omega, by omega, rfl, fun d hd => ?_, fun hd => ?_⟩
   · have hq := hq1 d hd
     simp only [dlCells] at hq ⊢
     simp -dsimp only [Vm.G, zA, zB, zC, zD, zE, zF, q178.1]
     exact hq
   · have hq := hq2 hd
     simp only [dlCells, Dl.zero]
     simp -dsimp only [Vm.G, zA, zB, zC, zD, zE, zF, q178.1]
     exact hq
 · rw [hf] at hq2
   simp -dsimp only [Vm.G, zA, zB, zC, zD, zE, zF, q178.1]
   refine call_one (S := rLineOfSpec) rfl _ GaL.rfl ⟨key, [], by omega, by simp, rfl, fun d hd => ?_, fun hd => ?_⟩
   · rw [lineOf_nil] at hd; cases hd
   · simp only [dlCells, Dl.zero]
     simp -dsimp only [Vm.G, zA, zB, zC, zD, zE, zF, q178.1]
     exact hq2 rfl
def rDocsGetSpec : Vm.Spec := fun args h Q => ∃ (R : RId) (f : Fun) (id : Int), args = [.ptr R.iv 0, .v (.int .i64 id)] ∧ isRef h R f ∧ f.n ≤ 536870912 ∧
 (∀ d l, docAt f id = some (d, l) → l.length ≤ 6 → d.lines = l.length → Q (.otup 1 true 48 4 (l.map dlAv) [.agg (dcCells d), .any, .v (.bool true)]) h) ∧
 (docAt f id = none → Q (.tup [.agg (dcCells .zero), .v (.slice none 0 0), .v (.bool false)]) h)
theorem does_rDocsGet : Does Tryz.prog 107 rDocsGetSpec := by
 refine does_of_awpO 1 (good_cons does_rKey (good_cons does_rGet (good_cons does_rDocOf (good_cons does_rline good_nil)))) Tryz.func107 rfl (by decide +kernel) (by decide +kernel) ?_
 rintro args h Q ⟨R, f, id, rfl, hR, hfn, hq1, hq2⟩
 refine ⟨by simp [Tryz.f107], ?_⟩
 rw [awpFuncO_some (by rfl)]
 have hk := dcK_length id
 unfold docAt docHead at hq1 hq2
 simp only [dcCells, Dc.zero] at hq2
 simp -dsimp only [Vm.G, zA, zB, zC, zD, zE, zF, q107.1]
 refine bs_intro zr3 (by decide) (by decide) rfl rfl (by simp [solid, AV.cells]) ?_
 simp -dsimp only [Vm.G, zA, zB, zC, zD, zE, zF, q107.1]
 refine call_one (S := keySpec) rfl _ GaL.rfl ⟨68, [id], by simp, rfl, ?_⟩
 have ek : keyOf 68 [id] = dcK id := rfl
 simp -dsimp only [Vm.G, zA, zB, zC, zD, zE, zF, q107.1, ek]
 generalize dcK id = key at hk hq1 hq2 ⊢
 refine call_one (S := rGetSpec) rfl _ GaL.rfl ⟨R, f, key, rfl, hR, hfn, fun v hf => ?_, fun hf => ?_⟩
 · have hvl := (hR.len hf).2
   rw [hf] at hq1 hq2
   simp only [zYa] at hq1 hq2
   simp -dsimp only [Vm.G, zA, zB, zC, zD, zE, zF, q107.1]
   refine call_one (S := rDocOfSpec) rfl _ GaL.rfl ⟨key, v, by omega, by omega, rfl, fun d hd => ?_, fun hd => ?_⟩
   · rw [hd] at hq1 hq2
     simp only [zYa] at hq1 hq2
     simp only [dcCells] at hq1 ⊢
     have hh := zIa (headOk id d)
     rcases hh with c | c
     · rw [if_pos c] at hq1 hq2
       simp only [zYa] at hq1 hq2
       have hk3 := headOk_iff.1 c
       rcases hk3 with ⟨hid, hd1, hd2⟩
       have hn : ∃ n : Nat, d.lines = n ∧ 1 ≤ n ∧ n ≤ 6 := ⟨d.lines.toNat, by omega, by omega, by omega⟩
       rcases hn with ⟨n, hn, hn1, hn6⟩
       have htn : d.lines.toNat = n := by omega
       rw [htn] at hq1 hq2
       have c1 : (d.id != id) = false := by simp [hid]
       have c2 : decide (d.lines < 1) = false := decide_eq_false (by omega)
       have c3 : decide (d.lines > 6) = false := decide_eq_false (by omega)
       simp -dsimp only [Vm.G, zA, zB, zC, zD, zE, zF, q107.1, c1, c2, c3]
       refine awp_loop (fun m s h' => ∃ (i : Nat) (l : List Dl), i + m = n ∧ h' = h ∧ linesAt f id i = some l ∧ s = mk [(0, .ptr R.iv 0), (1, .v (.int .i64 id)), (4, .box [.v (.int .i64 0), .v (.int .i64 0), .v (.int .i64 0), .v (.int .i64 0), .v (.int .i64 0)]), (10, .box [.v (.int .i64 d.id), .v (.int .i64 d.kind), .v (.int .i64 d.year), .v (.int .i64 d.frm), .v (.int .i64 d.lines)]), (12, .own true 48 4 ((l).map dlAv)), (13, .v (.int .i64 (i : Nat)))])
         n _ (le_mk _ ?_) ⟨0, [], by omega, rfl, rfl, rfl⟩ ?_
       · simp only [Vm.D]
         try simp -dsimp only [Vm.G, zA, zB, zC, zD, zE, zF, q107.1]
         repeat' first | exact .refl _ | exact .nil _ _ _ (by decide) | refine ⟨?_, ?_⟩
       · rintro m s h' ⟨i, l, hi, rfl, hli, rfl⟩
         simp -dsimp only [Vm.G, zA, zB, zC, zD, zE, zF, q107.1]
         refine cond_intro (fun hcc => ?_) (fun hcc => ?_)
         · have hlt : i < n := by have := of_decide_eq_true hcc; omega
           have hw := hwN i (by omega)
           have hll := linesAt_length hli
           have hsuc : linesAt f id (i + 1) = (lineAt f id i).map fun x => l ++ [x] := by
             show (linesAt f id i).bind _ = _
             rw [hli]; rfl
           simp -dsimp only [Vm.G, zA, zB, zC, zD, zE, zF, q107.1]
           refine call_one (S := rlineSpec) rfl _ GaL.rfl ⟨R, f, id, (i : Nat), rfl, hR, hfn, fun x hx => ?_, fun hx => ?_⟩
           · rw [hx] at hsuc
             have hsuc : linesAt f id (i + 1) = some (l ++ [x]) := hsuc
             simp only [dlCells]
             simp -dsimp only [Vm.G, zA, zB, zC, zD, zE, zF, q107.1]
             refine bs_intro zr48 (by decide) (by decide) rfl rfl (by simp [solid, AV.cells]) ?_
             simp -dsimp only [Vm.G, zA, zB, zC, zD, zE, zF, q107.1]
             refine app_sl Tryz.underlying43 (by simp [AV.cells]) (by simp only [zJa, zMa, zOa]; omega) ?_
             simp -dsimp only [Vm.G, zA, zB, zC, zD, zE, zF, q107.1]
             refine kept_intro ⟨n - (i + 1), by omega, _, le_mk [(0, .ptr R.iv 0), (1, .v (.int .i64 id)), (4, .box [.v (.int .i64 0), .v (.int .i64 0), .v (.int .i64 0), .v (.int .i64 0), .v (.int .i64 0)]), (10, .box [.v (.int .i64 d.id), .v (.int .i64 d.kind), .v (.int .i64 d.year), .v (.int .i64 d.frm), .v (.int .i64 d.lines)]), (12, .own true 48 4 ((l ++ [x]).map dlAv)), (13, .v (.int .i64 (i + 1 : Nat)))] ?_, i + 1, l ++ [x], by omega, rfl, hsuc, rfl⟩
             simp only [Vm.D, hw, dlAv, dlCells, zKa, zLa, zNa]
             try simp -dsimp only [Vm.G, zA, zB, zC, zD, zE, zF, q107.1, hw, dlAv, dlCells, zKa, zLa, zNa]
             repeat' first | exact .refl _ | exact .nil _ _ _ (by decide) | refine ⟨?_, ?_⟩
           · rw [hx] at hsuc
             rw [linesAt_none (m := n) (by omega) hsuc] at hq2
             simp only [dlCells]
             simp -dsimp only [Vm.G, zA, zB, zC, zD, zE, zF, q107.1]
             exact hq2 rfl
         · have hge : ¬ i < n := by have := of_decide_eq_false hcc; omega
           obtain rfl : i = n := by omega
           rw [hli] at hq1
           have hll := linesAt_length hli
           have hq := hq1 d l rfl (by omega) (by omega)
           clear hq1 hq2
           simp -dsimp only [Vm.G, zA, zB, zC, zD, zE, zF, q107.1]
           exact hq
     · rw [if_neg (by rw [c]; decide)] at hq2
       have hq2 := hq2 rfl
       have h1 := zIa (d.id != id)
       rcases h1 with c1 | c1
       · simp -dsimp only [Vm.G, zA, zB, zC, zD, zE, zF, q107.1, c1]
         exact hq2
       · have h2 := zIa (decide (d.lines < 1))
         rcases h2 with c2 | c2
         · simp -dsimp only [Vm.G, zA, zB, zC, zD, zE, zF, q107.1, c1, c2]
           exact hq2
         · have h3 := zIa (decide (d.lines > 6))
           rcases h3 with c3 | c3
           · simp -dsimp only [Vm.G, zA, zB, zC, zD, zE, zF, q107.1, c1, c2, c3]
             exact hq2
           · exfalso
             have d1 : d.id = id := by simpa using c1
             have d2 := of_decide_eq_false c2
             have d3 := of_decide_eq_false c3
             rw [headOk_iff.2 ⟨d1, by omega, by omega⟩] at c
             cases c
   · rw [hd] at hq2
     simp only [dcCells, Dc.zero]
     simp -dsimp only [Vm.G, zA, zB, zC, zD, zE, zF, q107.1]
     exact hq2 rfl
 · rw [hf] at hq2
   simp -dsimp only [Vm.G, zA, zB, zC, zD, zE, zF, q107.1]
   refine call_one (S := rDocOfSpec) rfl _ GaL.rfl ⟨key, [], by omega, by simp, rfl, fun d hd => ?_, fun hd => ?_⟩
   · rw [docOf_nil] at hd; cases hd
   · simp only [dcCells, Dc.zero]
     simp -dsimp only [Vm.G, zA, zB, zC, zD, zE, zF, q107.1]
     exact hq2 rfl
def rDocsSetSpec : Vm.Spec := fun args h Q => ∃ (R : RId) (f : Fun) (id i : Int) (x : Dl), I64 id ∧ I64 i ∧ x.ok ∧ args = [.ptr R.iv 0, .v (.int .i64 id), .v (.int .i64 i), dlAv x] ∧ isRef h R f ∧ f.n ≤ 536870912 ∧
 ∀ h', isRef h' R (docsSet f id i x).1 → Same h h' (rFoot R) → Q (.v (.int .i64 (docsSet f id i x).2)) h'
theorem does_rDocsSet : Does Tryz.prog 110 rDocsSetSpec := by
 refine dA (good_cons does_rDocsGet (good_cons does_rDl (good_cons does_rSet good_nil))) Tryz.func110 rfl (by decide +kernel) ?_
 rintro args h Q ⟨R, f, id, i, x, hid, hii, hx, rfl, hR, hfn, hq⟩
 refine ⟨by simp [Tryz.f110], ?_⟩
 unfold docsSet at hq
 simp only [dlAv, dlCells]
 simp -dsimp only [Vm.G, zA, zB, zC, zD, zE, zF, q110.1]
 refine call_one (S := rDocsGetSpec) rfl _ GaL.rfl ⟨R, f, id, rfl, hR, hfn, fun d l hd hl6 hdl => ?_, fun hd => ?_⟩
 · rw [hd] at hq
   simp only [dcCells] at hq ⊢
   simp -dsimp only [Vm.G, zA, zB, zC, zD, zE, zF, q110.1]
   have hd1 := zIa (decide (i < 0))
   rcases hd1 with c1 | c1
   · have d1 := of_decide_eq_true c1
     rw [if_neg (by omega)] at hq
     simp -dsimp only [Vm.G, zA, zB, zC, zD, zE, zF, q110.1, c1]
     exact hq h hR (.refl _ _)
   · have d1 := of_decide_eq_false c1
     have hd2 := zIa (decide (i ≥ (l.length : Int)))
     rcases hd2 with c2 | c2
     · have d2 := of_decide_eq_true c2
       rw [if_neg (by omega)] at hq
       simp -dsimp only [Vm.G, zA, zB, zC, zD, zE, zF, q110.1, c1, c2, zJa]
       exact hq h hR (.refl _ _)
     · have d2 := of_decide_eq_false c2
       rw [if_pos (by omega)] at hq
       simp -dsimp only [Vm.G, zA, zB, zC, zD, zE, zF, q110.1, c1, c2, zJa]
       refine call_one (S := rdlSpec) rfl _ GaL.rfl ⟨id, i, x, hid, hii, hx, rfl, ?_⟩
       simp -dsimp only [Vm.G, zA, zB, zC, zD, zE, zF, q110.1]
       refine call_one (S := rSetSpec) rfl _ GaL.rfl ⟨R, f, (dlK id i, dlV x), rfl, hR, hfn, fun h2 g1 g2 => ?_⟩
       rw [if_pos (right_dl id i x)] at g1
       simp -dsimp only [Vm.G, zA, zB, zC, zD, zE, zF, q110.1]
       exact hq h2 g1 g2
 · rw [hd] at hq
   simp only [dcCells, Dc.zero] at hq ⊢
   simp -dsimp only [Vm.G, zA, zB, zC, zD, zE, zF, q110.1]
   exact hq h hR (.refl _ _)
theorem openD_ref (x : Dl) : w64 (w64 (x.orig - x.liq) - x.can) = openD x := by
 unfold openD
 have h1 : w64 (w64 (x.orig - x.liq) - x.can) = w64 (w64 (x.orig - x.liq) + -x.can) := rfl
 have h2 : ∀ a b : Int, w64 (w64 a + b) = w64 (a + b) := fun a b => by
   show IntKind.i64.wrap _ = IntKind.i64.wrap _
   rw [wrap_i64_toInt, wrap_i64_toInt]
   congr 1
   show BitVec.ofInt 64 (IntKind.i64.wrap a + b) = _
   rw [wrap_i64_toInt, BitVec.ofInt_add, BitVec.ofInt_toInt, ← BitVec.ofInt_add]
 have h3 : w64 (x.orig - w64 (x.liq + x.can)) = w64 (x.orig - (x.liq + x.can)) := by
   show IntKind.i64.wrap _ = IntKind.i64.wrap _
   rw [wrap_i64_toInt, wrap_i64_toInt]
   congr 1
   show BitVec.ofInt 64 (x.orig - IntKind.i64.wrap (x.liq + x.can)) = _
   rw [wrap_i64_toInt, Int.sub_eq_add_neg, Int.sub_eq_add_neg, BitVec.ofInt_add (x := x.orig), BitVec.ofInt_add (x := x.orig), BitVec.ofInt_neg, BitVec.ofInt_neg, BitVec.ofInt_toInt]
 rw [h1, h2, h3]
 congr 1; omega
theorem does_rDocsOpen : Does Tryz.prog 108 openDSpec := by
 refine dA good_nil Tryz.func108 rfl (by decide +kernel) ?_
 rintro args h Q ⟨x, rfl, hq⟩
 refine ⟨by simp [Tryz.f108], ?_⟩
 rw [← openD_ref] at hq
 simp only [dlAv, dlCells]
 simp -dsimp only [Vm.G, zA, zB, zC, zD, zE, zF, q108.1]
 exact hq
def rDocsPutSpec : Vm.Spec := fun args h Q => ∃ (R : RId) (f : Fun) (d : Dc) (l : List Dl), d.ok ∧ (∀ x ∈ l, x.ok) ∧ args = [.ptr R.iv 0, .agg (dcCells d), .sl 4 (l.map dlAv)] ∧ isRef h R f ∧ f.n ≤ 536870900 ∧
 ∀ h', isRef h' R (docsPut f d l).1 → Same h h' (rFoot R) → Q (.tup [.v (.int .i64 (docsPut f d l).2.1), .v (.int .i64 (docsPut f d l).2.2)]) h'
theorem does_rDocsPut : Does Tryz.prog 118 rDocsPutSpec := by
 refine dA (good_cons does_rNext (good_cons does_rDl (good_cons does_rSet (good_cons does_rDc good_nil)))) Tryz.func118 rfl (by decide +kernel) ?_
 rintro args h Q ⟨R, f, d, l, hd, hx, rfl, hR, hfn, hq⟩
 refine ⟨by simp [Tryz.f118], ?_⟩
 unfold docsPut at hq
 simp only [dcCells]
 simp -dsimp only [Vm.G, zA, zB, zC, zD, zE, zF, q118.1]
 have hd0 := zIa (decide ((l.length : Int) < 1))
 rcases hd0 with c0 | c0
 · have d0 := of_decide_eq_true c0
   simp only [if_pos (show l.length = 0 ∨ 6 < l.length from .inl (by omega))] at hq
   simp -dsimp only [Vm.G, zA, zB, zC, zD, zE, zF, q118.1, c0]
   exact hq h hR (.refl _ _)
 · have d0 := of_decide_eq_false c0
   have hd6 := zIa (decide ((l.length : Int) > 6))
   rcases hd6 with c6 | c6
   · have d6 := of_decide_eq_true c6
     simp only [if_pos (show l.length = 0 ∨ 6 < l.length from .inr (by omega))] at hq
     simp -dsimp only [Vm.G, zA, zB, zC, zD, zE, zF, q118.1, c0, c6]
     exact hq h hR (.refl _ _)
   · have d6 := of_decide_eq_false c6
     have hr := readOf_range f (seqKey 2)
     simp only [if_neg (show ¬ (l.length = 0 ∨ 6 < l.length) by omega)] at hq
     simp -dsimp only [Vm.G, zA, zB, zC, zD, zE, zF, q118.1, c0, c6]
     refine call_one (S := rNextSpec) rfl _ GaL.rfl ⟨R, f, 2, rfl, hR, by omega, fun hr => ?_, fun hn h1 g1 g2 => ?_⟩
     · simp only [if_pos hr] at hq
       simp -dsimp only [Vm.G, zA, zB, zC, zD, zE, zF, q118.1]
       exact hq h hR (.refl _ _)
     · simp only [if_neg hn] at hq
       unfold docsF at hq
       have hidr : I64 (readOf f (seqKey 2) + 1) := by unfold I64 at hr ⊢; omega
       have hf1 : (upd f (seqKey 2) (some (be 8 (readOf f (seqKey 2) + 1)))).n = f.n + 1 := rfl
       generalize readOf f (seqKey 2) + 1 = id at hq g1 hidr hf1 ⊢
       generalize upd f (seqKey 2) (some (be 8 id)) = f1 at hq g1 hf1
       simp -dsimp only [Vm.G, zA, zB, zC, zD, zE, zF, q118.1]
       refine awp_loop (fun m s h' => ∃ (i : Nat) (g : Fun), i + m = l.length ∧ isRef h' R g ∧ g.n ≤ f.n + 1 + i ∧ Same h h' (rFoot R) ∧ putLines id i (l.drop i) g = putLines id 0 l f1 ∧ s = mk [(0, .ptr R.iv 0), (2, .sl 4 (l.map dlAv)), (4, .box [.v (.int .i64 d.id), .v (.int .i64 d.kind), .v (.int .i64 d.year), .v (.int .i64 d.frm), .v (.int .i64 d.lines)]), (8, .v (.int .i64 id)), (10, .v (.int .i64 (i : Nat)))])
         l.length _ (le_mk _ ?_) ⟨0, f1, by omega, g1, by omega, g2, rfl, rfl⟩ ?_
       · simp only [Vm.D]
         try simp -dsimp only [Vm.G, zA, zB, zC, zD, zE, zF, q118.1]
         repeat' first | exact .refl _ | exact .nil _ _ _ (by decide) | refine ⟨?_, ?_⟩
       · clear g1 g2 hR
         rintro m s h' ⟨i, g, hi, hR, hgn, hsm, hp, rfl⟩
         simp -dsimp only [Vm.G, zA, zB, zC, zD, zE, zF, q118.1]
         refine cond_intro (fun hcc => ?_) (fun hcc => ?_)
         · have hlt : i < l.length := by have := of_decide_eq_true hcc; omega
           have hw := hwN i (by omega)
           have hok := hx l[i] (zQa hlt)
           rw [zLb hlt] at hp
           simp -dsimp only [Vm.G, zA, zB, zC, zD, zE, zF, q118.1]
           refine idx_map dlAv l i hlt ?_
           generalize l[i] = x at hok hp
           have hii : I64 (i : Int) := by unfold I64; omega
           have hun : (upd g (dlK id i) (some (dlV x))).n = g.n + 1 := rfl
           simp only [dlAv, dlCells]
           simp -dsimp only [Vm.G, zA, zB, zC, zD, zE, zF, q118.1, AV.cells]
           refine call_one (S := rdlSpec) rfl _ GaL.rfl ⟨id, i, x, hidr, hii, hok, rfl, ?_⟩
           simp -dsimp only [Vm.G, zA, zB, zC, zD, zE, zF, q118.1]
           refine call_one (S := rSetSpec) rfl _ GaL.rfl ⟨R, g, (dlK id i, dlV x), rfl, hR, by omega, fun h2 g1 g2 => ?_⟩
           rw [if_pos (right_dl id i x)] at g1
           simp -dsimp only [Vm.G, zA, zB, zC, zD, zE, zF, q118.1]
           refine kept_intro ⟨l.length - (i + 1), by omega, _, le_mk [(0, .ptr R.iv 0), (2, .sl 4 (l.map dlAv)), (4, .box [.v (.int .i64 d.id), .v (.int .i64 d.kind), .v (.int .i64 d.year), .v (.int .i64 d.frm), .v (.int .i64 d.lines)]), (8, .v (.int .i64 id)), (10, .v (.int .i64 (i + 1 : Nat)))] ?_, i + 1, _, by omega, g1, by show (upd g (dlK id i) (some (dlV x))).n ≤ f.n + 1 + (i + 1); omega, hsm.trans g2, hp, rfl⟩
           simp only [Vm.D, hw]
           try simp -dsimp only [Vm.G, zA, zB, zC, zD, zE, zF, q118.1, hw]
           repeat' first | exact .refl _ | exact .nil _ _ _ (by decide) | refine ⟨?_, ?_⟩
         · have hge : ¬ i < l.length := by have := of_decide_eq_false hcc; omega
           rw [List.drop_of_length_le (by omega)] at hp
           have hp : g = putLines id 0 l f1 := hp
           rw [← hp] at hq
           obtain ⟨o1, o2, o3, o4, o5⟩ := hd
           have hdok : ({ d with id := id, lines := (l.length : Int) } : Dc).ok := ⟨hidr, o2, o3, o4, by unfold I64; show -9223372036854775808 ≤ (l.length : Int) ∧ (l.length : Int) ≤ _; omega⟩
           simp -dsimp only [Vm.G, zA, zB, zC, zD, zE, zF, q118.1]
           refine call_one (S := rdcSpec) rfl _ GaL.rfl ⟨{ d with id := id, lines := l.length }, hdok, rfl, ?_⟩
           simp -dsimp only [Vm.G, zA, zB, zC, zD, zE, zF, q118.1]
           refine call_one (S := rSetSpec) rfl _ GaL.rfl ⟨R, g, (dcK id, dcV { d with id := id, lines := l.length }), rfl, hR, by omega, fun h2 g1 g2 => ?_⟩
           rw [if_pos (right_dc id _)] at g1
           simp -dsimp only [Vm.G, zA, zB, zC, zD, zE, zF, q118.1]
           exact hq h2 g1 (hsm.trans g2)
theorem chargeRun_n (c : Chg) : ∀ (l : List Nd) (f : Fun) (w : Bool), (chargeRun c l f w).1.n ≤ f.n + l.length
 | [], f, w => zMb _
 | n :: r, f, w => by
   unfold chargeRun
   split
   · exact zKb _ _
   · have := chargeRun_n c r (upd f (ndK (atOf c n).1) (some (ndV (atOf c n).1))) (w || (atOf c n).2.1)
     have e : (upd f (ndK (atOf c n).1) (some (ndV (atOf c n).1))).n = f.n + 1 := rfl
     rw [e] at this
     rw [zMa]; omega
theorem chargeOf_n (f : Fun) (year id : Int) (c : Chg) : (chargeOf f year id c).1.n ≤ f.n + 8 := by
 unfold chargeOf
 split
 · exact zKb _ _
 · split
   · exact zKb _ _
   · have := chargeRun_n c (pathOf f year 8 id) f false
     have := pathOf_length f year 8 id
     omega
def chargeG (mk : Dl → Chg) (year : Int) : List Dl → Fun → Bool → Fun × Bool × Int
 | [], f, w => (f, w, 0)
 | x :: r, f, w => if (chargeOf f year x.node (mk x)).2.2 ≠ 0 then ((chargeOf f year x.node (mk x)).1, false, (chargeOf f year x.node (mk x)).2.2)
   else chargeG mk year r (chargeOf f year x.node (mk x)).1 (w || (chargeOf f year x.node (mk x)).2.1)
theorem chargeG_cons (mk : Dl → Chg) (year : Int) (x : Dl) (r : List Dl) (f : Fun) (w : Bool) : chargeG mk year (x :: r) f w = if (chargeOf f year x.node (mk x)).2.2 ≠ 0 then ((chargeOf f year x.node (mk x)).1, false, (chargeOf f year x.node (mk x)).2.2)
   else chargeG mk year r (chargeOf f year x.node (mk x)).1 (w || (chargeOf f year x.node (mk x)).2.1) := rfl
theorem chargeL_G (year : Int) : ∀ (l : List Dl) (f : Fun) (w : Bool), chargeL year l f w = chargeG (fun x => ⟨x.orig, 0, 0⟩) year l f w
 | [], _, _ => rfl
 | x :: r, f, w => by
   rw [chargeL_cons, chargeG_cons, chargeL_G year r]
theorem chargeG_congr {mk mk' : Dl → Chg} (year : Int) : ∀ (l : List Dl) (f : Fun) (w : Bool), (∀ x ∈ l, mk x = mk' x) → chargeG mk year l f w = chargeG mk' year l f w
 | [], _, _, _ => rfl
 | x :: r, f, w, h => by
   rw [chargeG_cons, chargeG_cons, h x (List.mem_cons_self ..), chargeG_congr year r _ _ fun y hy => h y (List.mem_cons_of_mem _ hy)]
theorem chargeG_n (mk : Dl → Chg) (year : Int) : ∀ (l : List Dl) (f : Fun) (w : Bool), (chargeG mk year l f w).1.n ≤ f.n + 8 * l.length
 | [], f, w => zMb _
 | x :: r, f, w => by
   have h1 := chargeOf_n f year x.node (mk x)
   rw [chargeG_cons]
   split
   · show (chargeOf f year x.node (mk x)).1.n ≤ _
     rw [zMa]; omega
   · have := chargeG_n mk year r (chargeOf f year x.node (mk x)).1 (w || (chargeOf f year x.node (mk x)).2.1)
     rw [zMa]; omega
theorem putLines_bound (id : Int) : ∀ (l : List Dl) (i : Nat) (f : Fun), (putLines id i l f).n = f.n + l.length
 | [], _, _ => rfl
 | x :: r, i, f => by
   show (putLines id (i + 1) r (upd f (dlK id i) (some (dlV x)))).n = _
   rw [putLines_bound id r (i + 1)]
   show f.n + 1 + r.length = f.n + (r.length + 1)
   omega
theorem docsPut_n (f : Fun) (d : Dc) (l : List Dl) : (docsPut f d l).1.n ≤ f.n + 8 := by
 unfold docsPut
 split
 · exact zKb _ _
 · split
   · exact zKb _ _
   · show (putLines _ 0 l (upd f (seqKey 2) _)).n + 1 ≤ _
     rw [putLines_bound]
     show f.n + 1 + l.length + 1 ≤ _
     omega
theorem preCheck_len {l : List Ln} (h : ¬ preCheck l ≠ 0) : l.length ≤ 6 := by
 unfold preCheck at h
 split at h
 · simp at h
 · rename_i h2; omega
theorem ownL_length (l : List Ln) : (ownL l).length = l.length := by unfold ownL; rw [zJa]
theorem preNew_n (f : Fun) (year : Int) (l : List Ln) : (preNew f year l).1.n ≤ f.n + 56 := by
 unfold preNew
 split
 · exact zKb _ _
 · split
   · exact zKb _ _
   · rename_i h1 h2
     have hl := preCheck_len h2
     have hc := chargeG_n (fun x => ⟨x.orig, 0, 0⟩) year (ownL l) f false
     rw [← chargeL_G, ownL_length] at hc
     split
     · show (chargeL year (ownL l) f false).1.n ≤ _
       omega
     · have hp := docsPut_n (chargeL year (ownL l) f false).1 ⟨0, 1, year, 0, 0⟩ (ownL l)
       show (docsPut (chargeL year (ownL l) f false).1 ⟨0, 1, year, 0, 0⟩ (ownL l)).1.n ≤ _
       omega
theorem lineOf_ok {key val : List UInt8} {n : Dl} (h : lineOf key val = some n) : n.ok := by
 unfold lineOf at h
 cases hl : numsPair 76 2 4 key val with
 | none => rw [hl] at h; cases h
 | some l =>
   rw [hl] at h
   cases h
   have := numsPair_i64 hl
   exact ⟨i64_getD this 2, i64_getD this 3, i64_getD this 4, i64_getD this 5⟩
theorem lineAt_ok {f : Fun} {id i : Int} {x : Dl} (h : lineAt f id i = some x) : x.ok := by
 unfold lineAt at h
 cases h1 : f (dlK id i) with
 | none => rw [h1] at h; cases h
 | some v => rw [h1, zYa] at h; exact lineOf_ok h
theorem linesAt_ok {f : Fun} {id : Int} : ∀ {n : Nat} {l : List Dl}, linesAt f id n = some l → ∀ x ∈ l, x.ok
 | 0, l, h => by cases h; simp
 | n + 1, l, h => by
   unfold linesAt at h
   cases h1 : linesAt f id n with
   | none => rw [h1] at h; cases h
   | some l1 =>
     rw [h1] at h
     cases h2 : lineAt f id n with
     | none => rw [zYa, h2] at h; cases h
     | some x =>
       rw [zYa, h2] at h
       cases h
       intro y hy
       rcases List.mem_append.1 hy with hy | hy
       · exact linesAt_ok h1 y hy
       · rw [List.mem_singleton] at hy; subst hy; exact lineAt_ok h2
theorem docAt_ok {f : Fun} {id : Int} {d : Dc} {l : List Dl} (h : docAt f id = some (d, l)) : ∀ x ∈ l, x.ok := by
 unfold docAt at h
 cases h1 : docHead f id with
 | none => rw [h1] at h; cases h
 | some d1 =>
   rw [h1, zYa] at h
   cases h2 : linesAt f id d1.lines.toNat with
   | none => rw [h2] at h; cases h
   | some l1 =>
     rw [h2] at h
     cases h
     exact linesAt_ok h2
theorem Dl.zero_ok : Dl.zero.ok := by simp [Dl.ok, Dl.zero, I64]
theorem nodeOf_clamp {y i : Int} {v : List UInt8} {n : Nd} (h : nodeOf (keyOf 78 [y, i]) v = some n) : n.year = clampK y ∧ n.id = clampK i := by
 unfold nodeOf numsPair at h
 rw [splitOf_key 78 [y, i] (by simp)] at h
 simp only [zLa, zNa] at h
 split at h
 · cases h; exact ⟨rfl, rfl⟩
 · cases h
theorem nodeAt_some {f : Fun} {y i : Int} {n : Nd} (h : nodeAt f y i = some n) : n.year = y ∧ n.id = i ∧ InR y ∧ InR i ∧ ∃ v, f (ndK n) = some v ∧ nodeOf (ndK n) v = some n := by
 unfold nodeAt at h
 split at h
 · cases h
 · rename_i v hv
   split at h
   · rename_i m hm
     split at h
     · rename_i hc
       cases h
       obtain ⟨h1, h2⟩ := nodeOf_clamp hm
       have e : ndK n = keyOf 78 [y, i] := by unfold ndK ndKey; rw [hc.1, hc.2]
       have r1 := clampK_range y
       have r2 := clampK_range i
       rw [← h1, hc.1] at r1
       rw [← h2, hc.2] at r2
       exact ⟨hc.1, hc.2, r1, r2, v, by rw [e]; exact hv, by rw [e]; exact hm⟩
     · cases h
   · cases h
inductive All2 (R : Nd → Nd → Prop) : List Nd → List Nd → Prop
 | nil : All2 R [] []
 | cons {a b : Nd} {l l' : List Nd} (h : R a b) (t : All2 R l l') : All2 R (a :: l) (b :: l')
theorem All2.len {R : Nd → Nd → Prop} : ∀ {l l' : List Nd}, All2 R l l' → l.length = l'.length
 | _, _, .nil => rfl
 | _, _, .cons _ t => by rw [zMa, zMa, t.len]
theorem All2.get {R : Nd → Nd → Prop} : ∀ {l l' : List Nd}, All2 R l l' → ∀ (i : Nat) (h1 : i < l.length) (h2 : i < l'.length), R l[i] l'[i]
 | _, _, .cons h _, 0, _, _ => h
 | _, _, .cons _ t, i + 1, h1, h2 => t.get i (by simpa using h1) (by simpa using h2)
end Go.Proofs.Lx
namespace Go.Proofs.Lx
open Go.Vm
end Go.Proofs.Lx
namespace Go.Proofs.Lx
open Go.Vm
attribute [local irreducible] awpArr awpBin awpMake awpAppend awpCvX awpStrOf awpBinX awpSlice awpBS awpStore awpAlloc awpCopy awpIndex awpDraw awpIdxX awpFa awpField awpLookup awpUpdate awpDelete awpClear awpRange awpNext awpEntry awpBuild awpClearS awpIdxL awpTree appB awpIdxO eltA treeA
end Go.Proofs.Lx
namespace Go.Proofs.Lx
open Go.Vm
def under (N : List Nd) (i : Int) : Int := tot (fun m => if m.parent = i then m.limit else 0) N
end Go.Proofs.Lx
namespace Go.Proofs.Lx
open Go.Vm
attribute [local irreducible] awpArr awpBin awpMake awpAppend awpCvX awpStrOf awpBinX awpSlice awpBS awpStore awpAlloc awpCopy awpIndex awpDraw awpIdxX awpFa awpField awpLookup awpUpdate awpDelete awpClear awpRange awpNext awpEntry awpBuild awpClearS awpIdxL awpTree appB awpIdxO eltA treeA
theorem IsFunds.at {p r : List Ln} (h : IsFunds p r) (k : Nat) (hk : k < r.length) : r[k] = ⟨r[k].fund, 0, 0, sumF p r[k].fund⟩ ∧ ∃ y ∈ p, y.fund = r[k].fund :=
 ⟨((h.2 _).1 (zQa hk)).2, ((h.2 _).1 (zQa hk)).1⟩
theorem IsFunds.lt {p r : List Ln} (h : IsFunds p r) {i j : Nat} (hij : i < j) (hj : j < r.length) : (r[i]'(by omega)).fund < r[j].fund := List.pairwise_iff_getElem.1 h.1 i j (by omega) hj hij
theorem has_more {p : List Ln} {x : Ln} {n : Int} (d : n ≠ x.fund) : (∃ y ∈ p ++ [x], y.fund = n) ↔ ∃ y ∈ p, y.fund = n := ⟨fun ⟨y, hy, e⟩ => by
 rcases List.mem_append.1 hy with hy | hy
 · exact ⟨y, hy, e⟩
 · rw [List.mem_singleton] at hy; subst hy; exact (d e.symm).elim, fun ⟨y, hy, e⟩ => ⟨y, by simp [hy], e⟩⟩
theorem IsFunds.insert {p r : List Ln} (h : IsFunds p r) (x : Ln) (hx : I64 x.amt) (j : Nat) (hj : j ≤ r.length) (hb : ∀ k (hk : k < r.length), k < j → r[k].fund < x.fund) (ha : ∀ hk : j < r.length, x.fund < r[j].fund) :
   IsFunds (p ++ [x]) (r.take j ++ ⟨x.fund, 0, 0, x.amt⟩ :: r.drop j) := by
 have hno : ∀ z ∈ r, z.fund ≠ x.fund := fun z hz e => by
   obtain ⟨k, hk, rfl⟩ := zVa hz
   by_cases hkj : k < j
   · have := hb k hk hkj; omega
   · have h1 := ha (by omega)
     by_cases hkj2 : k = j
     · subst hkj2; omega
     · have := h.lt (i := j) (j := k) (by omega) hk; omega
 have hnx : ¬ ∃ y ∈ p, y.fund = x.fund := fun hc => hno _ ((h.2 ⟨x.fund, 0, 0, sumF p x.fund⟩).2 ⟨hc, rfl⟩) rfl
 refine ⟨?_, fun z => ?_⟩
 · have hs : (r.take j ++ r.drop j).Pairwise (fun a b => a.fund < b.fund) := by rw [List.take_append_drop]; exact h.1
   rw [List.pairwise_append] at hs
   rw [List.pairwise_append, List.pairwise_cons]
   have hd : ∀ b ∈ r.drop j, x.fund < b.fund := fun b hb' => by
     obtain ⟨k, hk, rfl⟩ := zVa hb'
     rw [List.length_drop] at hk
     rw [List.getElem_drop]
     have h1 := ha (by omega)
     by_cases hk0 : k = 0
     · subst hk0; exact h1
     · have := h.lt (i := j) (j := j + k) (by omega) (by omega); omega
   refine ⟨hs.1, ⟨hd, hs.2.1⟩, fun a ha' b hb' => ?_⟩
   rcases List.mem_cons.1 hb' with rfl | hb'
   · obtain ⟨k, hk, rfl⟩ := zVa ha'
     rw [List.length_take] at hk
     rw [List.getElem_take]
     exact hb k (by omega) (by omega)
   · exact hs.2.2 a ha' b hb'
 · have hm : z ∈ r.take j ++ ⟨x.fund, 0, 0, x.amt⟩ :: r.drop j ↔ z = ⟨x.fund, 0, 0, x.amt⟩ ∨ z ∈ r := by
     have : z ∈ r ↔ z ∈ r.take j ∨ z ∈ r.drop j := by rw [← List.mem_append, List.take_append_drop]
     rw [this, List.mem_append, List.mem_cons]
     constructor
     · rintro (h | h | h)
       · exact .inr (.inl h)
       · exact .inl h
       · exact .inr (.inr h)
     · rintro (h | h | h)
       · exact .inr (.inl h)
       · exact .inl h
       · exact .inr (.inr h)
   rw [hm, sumF_step]
   by_cases d : z.fund = x.fund
   · rw [if_pos d]
     have e0 : w64 (sumF p z.fund + x.amt) = x.amt := by
       rw [d, sumF_none hnx, Int.zero_add]
       unfold I64 at hx
       exact wrap_i64 (by omega) (by omega)
     rw [e0]
     constructor
     · rintro (h1 | h1)
       · subst h1; exact ⟨⟨x, by simp, rfl⟩, rfl⟩
       · exact (hno z h1 d).elim
     · rintro ⟨-, h1⟩
       left; rw [h1, d]
   · rw [if_neg d, has_more d, ← h.2 z]
     exact ⟨fun h1 => h1.resolve_left fun e => d (by rw [e]), .inr⟩
theorem IsFunds.more {p r : List Ln} (h : IsFunds p r) (x : Ln) (j : Nat) (hj : j < r.length) (hx : r[j].fund = x.fund) :
   IsFunds (p ++ [x]) (r.set j ⟨r[j].fund, r[j].obj, r[j].node, w64 (r[j].amt + x.amt)⟩) := by
 obtain ⟨h1, h2⟩ := h.at j hj
 have e1 : r[j].obj = 0 := by rw [h1]
 have e2 : r[j].node = 0 := by rw [h1]
 have e3 : r[j].amt = sumF p x.fund := by rw [h1, ← hx]
 rw [e1, e2, e3, hx]
 have hmap : ∀ y : Ln, y.fund = x.fund → (r.set j y).map Ln.fund = r.map Ln.fund := fun y hy => by
   rw [List.map_set, hy, ← hx]
   apply List.ext_getElem (by simp)
   intro k k1 k2
   rw [List.getElem_set]
   split
   · subst_vars; rw [List.getElem_map]
   · rfl
 refine ⟨?_, fun z => ?_⟩
 · have := List.pairwise_map.2 h.1
   rw [← hmap ⟨x.fund, 0, 0, w64 (sumF p x.fund + x.amt)⟩ rfl] at this
   exact List.pairwise_map.1 this
 · rw [sumF_step]
   by_cases d : z.fund = x.fund
   · rw [if_pos d]
     constructor
     · intro hz
       obtain ⟨k, hk, rfl⟩ := zVa hz
       rw [zPb] at hk
       by_cases hkj : j = k
       · subst hkj
         rw [List.getElem_set_self]
         exact ⟨⟨x, by simp, rfl⟩, rfl⟩
       · rw [List.getElem_set_ne hkj] at d
         rcases Nat.lt_or_ge k j with h' | h'
         · have := h.lt h' hj; omega
         · have := h.lt (i := j) (j := k) (by omega) hk; omega
     · rintro ⟨-, hz⟩
       rw [hz, d]
       exact List.mem_set hj _
   · rw [if_neg d, has_more d, ← h.2 z]
     constructor
     · intro hz
       rcases List.mem_or_eq_of_mem_set hz with h' | h'
       · exact h'
       · exact (d (by rw [h'])).elim
     · intro hz
       obtain ⟨k, hk, rfl⟩ := zVa hz
       have hne : j ≠ k := fun e => by subst e; exact d hx
       have : (r.set j ⟨x.fund, 0, 0, w64 (sumF p x.fund + x.amt)⟩)[k]'(by rw [zPb]; exact hk) = r[k] := List.getElem_set_ne hne _
       rw [← this]; exact zQa _
theorem does_rFundP : Does Tryz.prog 70 (predSpec fundP) := by
 refine dA good_nil Tryz.func70 rfl (by decide +kernel) ?_
 rintro args h Q ⟨n, rfl, hq⟩
 refine ⟨by simp [Tryz.f70], ?_⟩
 unfold fundP at hq
 simp -dsimp only [Vm.G, zA, zB, zC, zD, zE, zF, q70.1]
 cases c1 : decide (100 ≤ n)
 · rw [c1] at hq
   simp -dsimp only [Vm.G, zA, zB, zC, zD, zE, zF, q70.1]
   exact hq
 · rw [c1] at hq
   simp -dsimp only [Vm.G, zA, zB, zC, zD, zE, zF, q70.1]
   exact hq
theorem does_rFixedP : Does Tryz.prog 82 (predSpec fixedP) := by
 refine dA good_nil Tryz.func82 rfl (by decide +kernel) ?_
 rintro args h Q ⟨n, rfl, hq⟩
 refine ⟨by simp [Tryz.f82], ?_⟩
 unfold fixedP at hq
 simp -dsimp only [Vm.G, zA, zB, zC, zD, zE, zF, q82.1]
 cases c1 : (n == 1010)
 · rw [c1] at hq
   simp -dsimp only [Vm.G, zA, zB, zC, zD, zE, zF, q82.1]
   cases c2 : (n == 1900)
   · rw [c2] at hq
     simp -dsimp only [Vm.G, zA, zB, zC, zD, zE, zF, q82.1]
     cases c3 : (n == 2900)
     · rw [c3] at hq
       simp -dsimp only [Vm.G, zA, zB, zC, zD, zE, zF, q82.1]
       exact hq
     · rw [c3] at hq
       simp -dsimp only [Vm.G, zA, zB, zC, zD, zE, zF, q82.1]
       exact hq
   · rw [c2] at hq
     simp -dsimp only [Vm.G, zA, zB, zC, zD, zE, zF, q82.1]
     exact hq
 · rw [c1] at hq
   simp -dsimp only [Vm.G, zA, zB, zC, zD, zE, zF, q82.1]
   exact hq
def rcFundSpec : Vm.Spec := fun args h Q => ∃ (R : RId) (f : Fun) (n : Int), args = [.ptr R.iv 0, .v (.int .i64 n)] ∧ isRef h R f ∧ f.n ≤ 536870912 ∧ (∀ s, f (fundK n) = some s → Q (.tup [.v (.string ⟨s.toArray⟩), .v (.bool true)]) h) ∧ (f (fundK n) = none → Q (.tup [.v (.string ⟨([] : List UInt8).toArray⟩), .v (.bool false)]) h)
theorem does_rcFund : Does Tryz.prog 72 rcFundSpec := by
 refine dA (good_cons does_rKey (good_cons does_rGet good_nil)) Tryz.func72 rfl (by decide +kernel) ?_
 rintro args h Q ⟨R, f, n, rfl, hR, hfn, hq1, hq2⟩
 refine ⟨by simp [Tryz.f72], ?_⟩
 simp -dsimp only [Vm.G, zA, zB, zC, zD, zE, zF, q72.1]
 refine bs_intro zr3 (by decide) (by decide) rfl rfl (by simp [solid, AV.cells]) ?_
 simp -dsimp only [Vm.G, zA, zB, zC, zD, zE, zF, q72.1]
 refine call_one (S := keySpec) rfl _ GaL.rfl ⟨70, [n], by simp, rfl, ?_⟩
 simp -dsimp only [Vm.G, zA, zB, zC, zD, zE, zF, q72.1]
 refine call_one (S := rGetSpec) rfl _ GaL.rfl ⟨R, f, fundK n, rfl, hR, hfn, fun s hf => ?_, fun hf => ?_⟩
 · simp -dsimp only [Vm.G, zA, zB, zC, zD, zE, zF, q72.1]
   refine strOf_sl bt123 s rfl ?_
   simp -dsimp only [Vm.G, zA, zB, zC, zD, zE, zF, q72.1]
   exact hq1 s hf
 · simp -dsimp only [Vm.G, zA, zB, zC, zD, zE, zF, q72.1]
   refine strOf_sl bt123 [] rfl ?_
   simp -dsimp only [Vm.G, zA, zB, zC, zD, zE, zF, q72.1]
   exact hq2 hf
def rcObjSpec : Vm.Spec := fun args h Q => ∃ (R : RId) (f : Fun) (n : Int), args = [.ptr R.iv 0, .v (.int .i64 n)] ∧ isRef h R f ∧ f.n ≤ 536870912 ∧ Q (.v (.bool (objOk f n))) h
theorem does_rcObj : Does Tryz.prog 80 rcObjSpec := by
 refine dA (good_cons does_rFixedP (good_cons does_rKey (good_cons does_rGet good_nil))) Tryz.func80 rfl (by decide +kernel) ?_
 rintro args h Q ⟨R, f, n, rfl, hR, hfn, hq⟩
 refine ⟨by simp [Tryz.f80], ?_⟩
 unfold objOk at hq
 simp -dsimp only [Vm.G, zA, zB, zC, zD, zE, zF, q80.1]
 refine bs_intro zr3 (by decide) (by decide) rfl rfl (by simp [solid, AV.cells]) ?_
 simp -dsimp only [Vm.G, zA, zB, zC, zD, zE, zF, q80.1]
 refine call_one (S := keySpec) rfl _ GaL.rfl ⟨79, [n], by simp, rfl, ?_⟩
 simp -dsimp only [Vm.G, zA, zB, zC, zD, zE, zF, q80.1]
 refine call_one (S := rGetSpec) rfl _ GaL.rfl ⟨R, f, objK n, rfl, hR, hfn, fun s hf => ?_, fun hf => ?_⟩
 · rw [hf] at hq
   have hq : Q (.v (.bool true)) h := by simpa using hq
   simp -dsimp only [Vm.G, zA, zB, zC, zD, zE, zF, q80.1]
   exact hq
 · rw [hf] at hq
   have hq : Q (.v (.bool (fixedP n))) h := by simpa using hq
   simp -dsimp only [Vm.G, zA, zB, zC, zD, zE, zF, q80.1]
   refine call_one (S := predSpec fixedP) rfl _ GaL.rfl ⟨n, rfl, ?_⟩
   simp -dsimp only [Vm.G, zA, zB, zC, zD, zE, zF, q80.1]
   exact hq
theorem thenO_nn (A B : Prop) : thenO .normal A B = A := rfl
theorem does_rName : Does Tryz.prog 71 nameSpec := by
 refine dA good_nil Tryz.func71 rfl (by decide +kernel) ?_
 rintro args h Q ⟨s, hl, rfl, hq⟩
 refine ⟨by simp [Tryz.f71], ?_⟩
 unfold nameOk at hq
 have hsz := size_mk s
 simp -dsimp only [Vm.G, zA, zB, zC, zD, zE, zF, q71.1, hsz]
 refine awp_loop (fun m s' h' => ∃ i : Nat, i + m = s.length ∧ h' = h ∧ (∀ j (hj : j < s.length), j < i → badC s[j] = false) ∧ s' = mk [(0, .v (.string ⟨s.toArray⟩)), (3, .v (.int .i64 (i : Nat)))])
   s.length _ (le_mk _ ?_) ⟨0, by omega, rfl, fun j _ hj => by omega, rfl⟩ ?_
 · simp only [Vm.D]
   try simp -dsimp only [Vm.G, zA, zB, zC, zD, zE, zF, q71.1]
   repeat' first | exact .refl _ | exact .nil _ _ _ (by decide) | refine ⟨?_, ?_⟩
 · rintro m s' h' ⟨i, hi, rfl, hb, rfl⟩
   simp -dsimp only [Vm.G, zA, zB, zC, zD, zE, zF, q71.1, hsz]
   refine cond_intro (fun hcc => ?_) (fun hcc => ?_)
   · have hlt : i < s.length := by have := of_decide_eq_true hcc; omega
     have hw := hwN i (by omega)
     have hany : badC s[i] = true → s.any badC = true := fun h => List.any_eq_true.2 ⟨s[i], zQa hlt, h⟩
     have hbi : badC s[i] = false → ∀ j (hj : j < s.length), j < i + 1 → badC s[j] = false := fun h j hj hj2 => by
       by_cases hji : j = i
       · subst hji; exact h
       · exact hb j hj (by omega)
     have hgd : (ByteArray.mk s.toArray).data.toList.getD (i : Int).toNat 0 = s[i] := by simp [List.getD, hlt]
     refine index_str Tryz.underlying9 (by omega) (by rw [hsz]; omega) ?_
     rw [hgd]
     generalize s[i] = c at hany hbi hgd ⊢
     simp -dsimp only [Vm.G, zA, zB, zC, zD, zE, zF, q71.1]
     cases c1 : decide ((c.toNat : Int) < 32)
     · simp -dsimp only [Vm.G, zA, zB, zC, zD, zE, zF, q71.1]
       refine index_str Tryz.underlying9 (by omega) (by rw [hsz]; omega) ?_
       rw [hgd]
       simp -dsimp only [Vm.G, zA, zB, zC, zD, zE, zF, q71.1]
       cases c2 : decide ((c.toNat : Int) > 126)
       · have hb1 : badC c = false := by unfold badC; rw [c1, c2]; rfl
         simp -dsimp only [Vm.G, zA, zB, zC, zD, zE, zF, q71.1]
         simp only [thenO_nn]
         refine kept_intro ⟨s.length - (i + 1), by omega, _, le_mk [(0, .v (.string ⟨s.toArray⟩)), (3, .v (.int .i64 (i + 1 : Nat)))] ?_, i + 1, by omega, rfl, hbi hb1, rfl⟩
         simp only [Vm.D, hw]
         try simp -dsimp only [Vm.G, zA, zB, zC, zD, zE, zF, q71.1, hw]
         repeat' first | exact .refl _ | exact .nil _ _ _ (by decide) | refine ⟨?_, ?_⟩
       · have hb1 : badC c = true := by unfold badC; rw [c1, c2]; rfl
         rw [hany hb1] at hq
         have hq : Q (.v (.bool false)) h' := by simpa using hq
         simp -dsimp only [Vm.G, zA, zB, zC, zD, zE, zF, q71.1]
         exact hq
     · have hb1 : badC c = true := by unfold badC; rw [c1]; rfl
       rw [hany hb1] at hq
       have hq : Q (.v (.bool false)) h' := by simpa using hq
       simp -dsimp only [Vm.G, zA, zB, zC, zD, zE, zF, q71.1]
       exact hq
   · have hge : ¬ i < s.length := by have := of_decide_eq_false hcc; omega
     have hany : s.any badC = false := by
       rw [List.any_eq_false]
       intro x hx
       obtain ⟨j, hj, rfl⟩ := zVa hx
       rw [hb j hj (by omega)]; decide
     rw [hany] at hq
     simp -dsimp only [Vm.G, zA, zB, zC, zD, zE, zF, q71.1, hsz]
     cases c1 : decide ((s.length : Int) ≥ 1)
     · have c0 : (s.length == 0) = true := beq_iff_eq.2 (by have := of_decide_eq_false c1; omega)
       rw [c0] at hq
       simp -dsimp only [Vm.G, zA, zB, zC, zD, zE, zF, q71.1, hsz]
       exact hq
     · have c0 : (s.length == 0) = false := by have := of_decide_eq_true c1; exact beq_eq_false_iff_ne.2 (by omega)
       rw [c0] at hq
       have e : decide (s.length ≤ 20) = decide ((s.length : Int) ≤ 20) := by
         by_cases h : s.length ≤ 20
         · rw [decide_eq_true h, decide_eq_true (by omega)]
         · rw [decide_eq_false h, decide_eq_false (by omega)]
       rw [e] at hq
       have hq : Q (.v (.bool (decide ((s.length : Int) ≤ 20)))) h' := by simpa using hq
       simp -dsimp only [Vm.G, zA, zB, zC, zD, zE, zF, q71.1, hsz]
       exact hq
theorem ofOf_num {k v : List UInt8} {tag : UInt8} (hp : [tag].isPrefixOf k = true) : ofOf k tag 1 = (numF (k, v)).map fun n => [n] := by
 have htag : ∀ t l', splitOf k = some (t, l') → t = tag := fun t l' hs => by
   unfold splitOf at hs
   split at hs
   · cases hs
   · split at hs
     · cases hs
       have hpre' : tag = t := by simpa [List.isPrefixOf] using hp
       exact hpre'.symm
     · cases hs
 unfold ofOf numF
 simp only
 cases hx : splitOf k with
 | none => rfl
 | some q =>
   obtain ⟨t, l'⟩ := q
   have ht := htag t l' hx
   simp only
   match l' with
   | [] => simp
   | [n] => simp [ht]
   | _ :: _ :: _ => simp; omega
def rcAllSpec : Vm.Spec := fun args h Q => ∃ (R : RId) (f : Fun) (tag : UInt8), args = [.ptr R.iv 0, .v (.int .u8 tag.toNat)] ∧ isRef h R f ∧ f.n ≤ 536870912 ∧
 ∀ l, ScanIs f [tag] l → l.length ≤ f.n → Q (.own true 3 1 ((allF l).map encI)) h
theorem does_rcAll : Does Tryz.prog 81 rcAllSpec := by
 refine dA (good_cons does_rScan (good_cons does_rOf good_nil)) Tryz.func81 rfl (by decide +kernel) ?_
 rintro args h Q ⟨R, f, tag, rfl, hR, hn, hq⟩
 refine ⟨by simp [Tryz.f81], ?_⟩
 simp -dsimp only [Vm.G, zA, zB, zC, zD, zE, zF, q81.1]
 refine bs_intro zr5 (by decide) (by decide) rfl rfl (by simp [solid, AV.cells]) ?_
 simp -dsimp only [Vm.G, zA, zB, zC, zD, zE, zF, q81.1]
 refine call_one (S := rScanSpec) rfl _ GaL.rfl ⟨R, f, [tag], rfl, by simp, hR, hn, fun l hsc hln => ?_⟩
 simp -dsimp only [Vm.G, zA, zB, zC, zD, zE, zF, q81.1]
 refine awp_loop (fun m s h' => ∃ i : Nat, i + m = l.length ∧ h' = h ∧ s = mk [(1, .v (.int .u8 tag.toNat)), (5, .own true 3 1 ((allF (l.take (i))).map encI)), (6, .own true 132 2 (l.map kvAv)), (7, .v (.int .i64 (i : Nat)))])
   l.length _ (le_mk _ ?_) ⟨0, by omega, rfl, rfl⟩ ?_
 · simp only [Vm.D]
   try simp -dsimp only [Vm.G, zA, zB, zC, zD, zE, zF, q81.1]
   repeat' first | exact .refl _ | exact .nil _ _ _ (by decide) | refine ⟨?_, ?_⟩
 · rintro m s h' ⟨i, hi, rfl, rfl⟩
   simp -dsimp only [Vm.G, zA, zB, zC, zD, zE, zF, q81.1, zJa]
   refine cond_intro (fun hcc => ?_) (fun hcc => ?_)
   · have hlt : i < l.length := by have := of_decide_eq_true hcc; omega
     have hw := hwN i (by omega)
     have hget : (l.map kvAv)[i]? = some (kvAv l[i]) := by simp [hlt]
     have est := filterMap_step numF l i hlt
     have hal : (allF (l.take i)).length ≤ i := filterMap_le numF l i
     have hin := (hsc.2 l[i].1 l[i].2).1 (zQa hlt)
     have hkl : l[i].1.length ≤ 32 := (hR.len hin.1).1
     have hof := ofOf_num (v := l[i].2) hin.2
     clear hin
     generalize l[i] = p at hget est hkl hof
     obtain ⟨k, v⟩ := p
     simp only at hkl hof
     simp -dsimp only [Vm.G, zA, zB, zC, zD, zE, zF, q81.1]
     refine idxO_intro (by omega) (by simp; omega) ?_
     simp -dsimp only [Vm.G, zA, zB, zC, zD, zE, zF, q81.1, zWa]
     refine eltA_intro hget ?_
     simp only [kvAv]
     simp -dsimp only [Vm.G, zA, zB, zC, zD, zE, zF, q81.1, AV.cells, zNb]
     refine call_one (S := rOfSpec) rfl _ GaL.rfl ⟨k, tag, 1, by omega, rfl, fun hs => ?_, fun l' hs => ?_⟩
     · rw [hs] at hof
       have hnn : numF (k, v) = none := by
         cases hx : numF (k, v) with
         | none => rfl
         | some n => rw [hx] at hof; cases hof
       rw [hnn] at est
       simp -dsimp only [Vm.G, zA, zB, zC, zD, zE, zF, q81.1]
       refine kept_intro ⟨l.length - (i + 1), by omega, _, le_mk [(1, .v (.int .u8 tag.toNat)), (5, .own true 3 1 ((allF (l.take (i + 1))).map encI)), (6, .own true 132 2 (l.map kvAv)), (7, .v (.int .i64 (i + 1 : Nat)))] ?_, i + 1, by omega, rfl, rfl⟩
       simp only [Vm.D, hw, est, Option.toList, List.append_nil]
       try simp -dsimp only [Vm.G, zA, zB, zC, zD, zE, zF, q81.1, hw, est, Option.toList, List.append_nil]
       repeat' first | exact .refl _ | exact .nil _ _ _ (by decide) | refine ⟨?_, ?_⟩
     · rw [hs] at hof
       have hnn : ∃ n, numF (k, v) = some n ∧ l' = [n] := by
         cases hx : numF (k, v) with
         | none => rw [hx] at hof; cases hof
         | some n => rw [hx] at hof; cases hof; exact ⟨n, rfl, rfl⟩
       rcases hnn with ⟨n, hnn, rfl⟩
       rw [hnn] at est
       have g0 : (([n] : List Int).map encI)[(0 : Int).toNat]? = some (encI n) := rfl
       have hl1 : (([n] : List Int).map encI).length = 1 := rfl
       generalize hxs : ([n] : List Int).map encI = xs at g0 hl1 ⊢
       simp -dsimp only [Vm.G, zA, zB, zC, zD, zE, zF, q81.1]
       refine idxO_intro (by decide) (by rw [hl1]; decide) ?_
       simp -dsimp only [Vm.G, zA, zB, zC, zD, zE, zF, q81.1]
       refine eltA_intro g0 ?_
       simp only [encI]
       simp -dsimp only [Vm.G, zA, zB, zC, zD, zE, zF, q81.1, AV.cells, zNb]
       refine bs_intro zr3 (by decide) (by decide) rfl rfl (by simp [solid, AV.cells]) ?_
       simp -dsimp only [Vm.G, zA, zB, zC, zD, zE, zF, q81.1]
       refine app_sl Tryz.underlying120 (by simp [AV.cells]) (by simp only [zJa, zMa, zOa]; omega) ?_
       simp -dsimp only [Vm.G, zA, zB, zC, zD, zE, zF, q81.1]
       refine kept_intro ⟨l.length - (i + 1), by omega, _, le_mk [(1, .v (.int .u8 tag.toNat)), (5, .own true 3 1 ((allF (l.take (i + 1))).map encI)), (6, .own true 132 2 (l.map kvAv)), (7, .v (.int .i64 (i + 1 : Nat)))] ?_, i + 1, by omega, rfl, rfl⟩
       simp only [Vm.D, hw, est, Option.toList, zKa, zLa, zNa, encI]
       try simp -dsimp only [Vm.G, zA, zB, zC, zD, zE, zF, q81.1, hw, est, Option.toList, zKa, zLa, zNa, encI]
       repeat' first | exact .refl _ | exact .nil _ _ _ (by decide) | refine ⟨?_, ?_⟩
   · have hge : ¬ i < l.length := by have := of_decide_eq_false hcc; omega
     simp -dsimp only [Vm.G, zA, zB, zC, zD, zE, zF, q81.1]
     rw [List.take_of_length_le (by omega)]
     exact hq l hsc hln
def rcFundsSpec : Vm.Spec := fun args h Q => ∃ (R : RId) (f : Fun), args = [.ptr R.iv 0] ∧ isRef h R f ∧ f.n ≤ 536870912 ∧
 ∀ l, ScanIs f [70] l → l.length ≤ f.n → Q (.own true 3 1 ((allF l).map encI)) h
theorem does_rcFunds : Does Tryz.prog 73 rcFundsSpec := by
 refine dA (good_cons does_rcAll good_nil) Tryz.func73 rfl (by decide +kernel) ?_
 rintro args h Q ⟨R, f, rfl, hR, hn, hq⟩
 refine ⟨by simp [Tryz.f73], ?_⟩
 simp -dsimp only [Vm.G, zA, zB, zC, zD, zE, zF, q73.1]
 refine call_one (S := rcAllSpec) rfl _ GaL.rfl ⟨R, f, 70, rfl, hR, hn, fun l hsc hln => ?_⟩
 simp -dsimp only [Vm.G, zA, zB, zC, zD, zE, zF, q73.1]
 exact hq l hsc hln
def rcNewSpec : Vm.Spec := fun args h Q => ∃ (R : RId) (f : Fun) (n : Int) (s : List UInt8), s.length ≤ 1073741824 ∧ args = [.ptr R.iv 0, .v (.int .i64 n), .v (.string ⟨s.toArray⟩)] ∧ isRef h R f ∧ f.n ≤ 536870912 ∧
 ∀ h', isRef h' R (newFund f n s).1 → Same h h' (rFoot R) → Q (.v (.int .i64 (newFund f n s).2)) h'
theorem does_rcNew : Does Tryz.prog 25 rcNewSpec := by
 refine dA (good_cons does_rFundP (good_cons does_rName (good_cons does_rcFund (good_cons does_rcFunds (good_cons does_rKey (good_cons does_rPut good_nil)))))) Tryz.func25 rfl (by decide +kernel) ?_
 rintro args h Q ⟨R, f, n, s, hsl, rfl, hR, hn, hq⟩
 refine ⟨by simp [Tryz.f25], ?_⟩
 unfold newFund at hq
 simp -dsimp only [Vm.G, zA, zB, zC, zD, zE, zF, q25.1]
 refine call_one (S := predSpec fundP) rfl _ GaL.rfl ⟨n, rfl, ?_⟩
 cases c1 : fundP n
 · rw [if_neg (by rw [c1]; simp)] at hq
   simp -dsimp only [Vm.G, zA, zB, zC, zD, zE, zF, q25.1]
   exact hq h hR (.refl _ _)
 · simp -dsimp only [Vm.G, zA, zB, zC, zD, zE, zF, q25.1]
   refine call_one (S := nameSpec) rfl _ GaL.rfl ⟨s, hsl, rfl, ?_⟩
   cases c2 : nameOk s
   · rw [if_neg (by rw [c2]; simp)] at hq
     simp -dsimp only [Vm.G, zA, zB, zC, zD, zE, zF, q25.1]
     exact hq h hR (.refl _ _)
   · rw [if_pos ⟨c1, c2⟩] at hq
     have hsl2 := name_len c2
     simp -dsimp only [Vm.G, zA, zB, zC, zD, zE, zF, q25.1]
     refine call_one (S := rcFundSpec) rfl _ GaL.rfl ⟨R, f, n, rfl, hR, hn, fun q hf => ?_, fun hf => ?_⟩
     · rw [if_pos (by rw [hf]; simp)] at hq
       simp -dsimp only [Vm.G, zA, zB, zC, zD, zE, zF, q25.1]
       exact hq h hR (.refl _ _)
     · rw [if_neg (by rw [hf]; simp)] at hq
       simp -dsimp only [Vm.G, zA, zB, zC, zD, zE, zF, q25.1]
       refine call_one (S := rcFundsSpec) rfl _ GaL.rfl ⟨R, f, rfl, hR, hn, fun l hsc hln => ?_⟩
       simp -dsimp only [Vm.G, zA, zB, zC, zD, zE, zF, q25.1, zJa]
       cases c4 : decide (((allF l).length : Int) ≥ 40)
       · have d4 := of_decide_eq_false c4
         rw [if_neg (by rw [many_iff hsc]; omega)] at hq
         simp -dsimp only [Vm.G, zA, zB, zC, zD, zE, zF, q25.1]
         refine bs_intro zr3 (by decide) (by decide) rfl rfl (by simp [solid, AV.cells]) ?_
         simp -dsimp only [Vm.G, zA, zB, zC, zD, zE, zF, q25.1]
         refine call_one (S := keySpec) rfl _ GaL.rfl ⟨70, [n], by simp, rfl, ?_⟩
         simp -dsimp only [Vm.G, zA, zB, zC, zD, zE, zF, q25.1]
         refine cvX_bytes bt123 Tryz.underlying9 (by rw [size_mk]; unfold maxLen; omega) ?_
         simp -dsimp only [Vm.G, zA, zB, zC, zD, zE, zF, q25.1]
         refine call_one (S := rPutSpec) rfl _ GaL.rfl ⟨R, f, fundK n, s, rfl, hR, hn, fun _ h2 g1 g2 => ?_, fun hc => by rw [right_fund c2] at hc; cases hc⟩
         simp -dsimp only [Vm.G, zA, zB, zC, zD, zE, zF, q25.1]
         exact hq h2 g1 g2
       · have d4 := of_decide_eq_true c4
         rw [if_pos ((many_iff hsc).2 (by omega))] at hq
         simp -dsimp only [Vm.G, zA, zB, zC, zD, zE, zF, q25.1]
         exact hq h hR (.refl _ _)
theorem bool_eql {a b : Bool} {KV : Value → Prop} : awpBin Tryz.prog .eql 4 (.v (.bool a)) (.v (.bool b)) KV = KV (.bool (a == b)) := by simp [awpBin, Tryz.underlying4]
end Go.Proofs.Lx
namespace Go.Proofs.Lx
open Go.Vm Go.RowKit
theorem putRow_heap {α : Type} [Inhabited α] (enc : α → Value) (w : World) (b n : Nat) (d : Array α) (os : Array Obj) :
   (∀ k, k < w.heap.size → k ≠ b → (Sort.grow (Sort.putRow enc (Sort.ahead w n) b 0 d) os).heap[k]? = w.heap[k]?) ∧ w.heap.size ≤ (Sort.grow (Sort.putRow enc (Sort.ahead w n) b 0 d) os).heap.size ∧
     ∀ vs e fr, w.heap[b]? = some (.cells vs e fr) → (Sort.grow (Sort.putRow enc (Sort.ahead w n) b 0 d) os).heap[b]? = some (.cells (Sort.putCells enc 0 d vs) e fr) := by
 have hs : (Sort.putRow enc (Sort.ahead w n) b 0 d).heap.size = w.heap.size := by simp [Sort.putRow, Sort.mapBlock, Sort.ahead]
 have hg : ∀ k, k < w.heap.size → (Sort.grow (Sort.putRow enc (Sort.ahead w n) b 0 d) os).heap[k]? = (w.heap.modify b (Sort.onCells (Sort.putCells enc 0 d)))[k]? := fun k hk => by
   show ((Sort.putRow enc (Sort.ahead w n) b 0 d).heap ++ os)[k]? = _
   rw [Array.getElem?_append_left (by rw [hs]; exact hk)]; rfl
 refine ⟨fun k hk hne => ?_, ?_, fun vs e fr hb => ?_⟩
 · rw [hg k hk, Array.getElem?_modify, if_neg (fun e => hne e.symm)]
 · show w.heap.size ≤ ((Sort.putRow enc (Sort.ahead w n) b 0 d).heap ++ os).size
   rw [Array.size_append, hs]; omega
 · rw [hg b (lt_of_heap hb), Array.getElem?_modify, if_pos rfl, hb]; rfl
def vAv {α : Type} (enc : α → Value) (x : α) : AV := .v (enc x)
theorem flat_v {α : Type} (enc : α → Value) (l : List α) : flat (l.map (vAv enc)) = l.map (vAv enc) := by
 unfold flat
 induction l with
 | nil => rfl
 | cons x r ih => rw [zLa, List.flatMap_cons, ih]; rfl
def sortVSpec {α : Type} (enc : α → Value) (R : List α → Prop) : Vm.Spec := fun args h Q => ∃ (l : List α) (h0 : Heap) (c e : Nat), args = [.osl h0.length 0 l.length c] ∧ h = h0 ++ [.row e (c * 1) (flat (l.map (vAv enc)))] ∧ l.length < 4611686018427387904 ∧ l.length ≤ c ∧
 ∀ l' : List α, l'.Perm l → R l' → Q (.tup []) (h0 ++ [.row e (c * 1) (flat (l'.map (vAv enc)))])
theorem does_sortV {α : Type} [Inhabited α] {f : FuncId} {R : List α → Prop} (enc : α → Value) (hp : ∀ x, plain (enc x) = true) (h1 : ∀ x, (enc x).oneCell' = true) (hcall : Callable Tryz.prog f)
   (key : ∀ (blk cap : Nat) (l : List α) (w : World), Sort.Holds enc w blk 0 l.toArray → blk < w.heap.size → l.length < 4611686018427387904 →
     Calls Tryz.prog f #[.slice (some ⟨blk, 0, none⟩) l.length cap] w fun e w' => e = .returned (.tuple #[]) ∧ ∃ (n : Nat) (os : Array Obj) (l' : List α), (l'.Perm l ∧ R l') ∧ w' = Sort.grow (Sort.putRow enc (Sort.ahead w n) blk 0 l'.toArray) os) :
   Does Tryz.prog f (sortVSpec enc R) := by
 refine ⟨hcall, ?_⟩
 rintro args h Q ⟨l, h0, c, e, rfl, rfl, hln, hlc, hq⟩ w g vs hvs hrep hh hfr hlaid
 have hm : h0.length < g.n := by rw [← hh.n]; simp
 generalize hb : g.loc h0.length = b
 have hrow : RowE w g e (c * 1) (flat (l.map (vAv enc))) b := by
   have : ObjRep w g (.row e (c * 1) (flat (l.map (vAv enc)))) (g.loc h0.length) := hh.obj h0.length _ (heap_last _ _)
   rw [hb] at this; exact this
 have hblt : b < w.heap.size := by rw [← hb]; exact hh.lt _ hm
 have hv0 : vs.getD 0 undef = .slice (some ⟨b, 0, none⟩) l.length c := by
   have := hrep 0 _ rfl
   generalize vs.getD 0 undef = v at this
   cases this with | osl => rw [hb]
 have hvs2 : vs = #[.slice (some ⟨b, 0, none⟩) l.length c] := by
   have h2 : vs.size = 1 := hvs
   apply Array.ext
   · simpa using h2
   · intro i hi1 hi2
     have : i = 0 := by omega
     subst this
     simpa [Array.getD, h2] using hv0
 subst hvs2
 obtain ⟨cur, a1, a2, a3, a4, a5, a6⟩ := hrow
 have hfl : (flat (l.map (vAv enc))).length = l.length := by rw [flat_v, zJa]
 have hcur : ∀ j (hj : j < l.length), cur.getD j undef = enc l[j] := fun j hj => by
   have := a6 j (vAv enc l[j]) (by rw [flat_v, List.getElem?_map, zTa hj]; rfl)
   exact (rep_v this).1
 have hH : Sort.Holds enc w b 0 l.toArray := fun j hj => by
   have hj : j < l.length := by simpa using hj
   have hjc : j < cur.size := by omega
   rw [Nat.zero_add]
   refine ⟨?_, ?_⟩
   · rw [cell_of_row w b j cur e (0, 0) a1]
     have := hcur j hj
     have e2 : (l.toArray)[j]! = l[j] := by rw [getElem!_pos l.toArray j (by simpa using hj)]; simp
     rw [e2, ← this]
     simp [Array.getD, hjc]
   · simp [World.frozen?, a1]
 refine (key b c l w hH hblt hln).mono ?_
 rintro e' w' ⟨rfl, n, os, l', ⟨hperm, hR⟩, rfl⟩
 obtain ⟨q1, q2, q3⟩ := putRow_heap enc w b n l'.toArray os
 have hlen : l'.length = l.length := hperm.length_eq
 generalize hW : Sort.grow (Sort.putRow enc (Sort.ahead w n) b 0 l'.toArray) os = w' at q1 q2 q3
 have hos : w'.os = w.os ∧ w'.tape = w.tape ∧ w'.output = w.output := by rw [← hW]; exact ⟨rfl, rfl, rfl⟩
 have hk : Keeps w g w' g := ⟨fun _ => zMb _, fun k j v hj hv => by
   have hkb : k ≠ b := fun e => by rw [e, a4] at hj; omega
   have hkl : k < w.heap.size := by
     rcases Nat.lt_or_ge k w.heap.size with h | h
     · exact h
     · rw [hfr k h] at hj; omega
   rw [World.cell?_of_block (a := ⟨k, j, none⟩) (q1 k hkl hkb)]; exact hv, zMb _, fun _ _ => rfl⟩
 have hrow' : RowE w' g e (c * 1) (flat (l'.map (vAv enc))) b := by
   have hnew : ∀ j (hj : j < l'.length), (Sort.putCells enc 0 l'.toArray cur).getD j undef = enc l'[j] := fun j hj => by
     have hjc : j < cur.size := by omega
     have e2 : (l'.toArray)[j]! = l'[j] := by rw [getElem!_pos l'.toArray j (by simpa using hj)]; simp
     rw [← e2]
     simp only [Sort.putCells]
     simp [Array.getD, hjc, hj]
   refine ⟨_, q3 cur e (0, 0) a1, by simp [Sort.putCells, a2], by rw [flat_v, zJa]; omega, a4, fun j hj => ?_, fun j u hu => ?_⟩
   · rw [flat_v, zJa] at hj
     rw [hnew j hj]; exact h1 _
   · rw [flat_v, List.getElem?_map] at hu
     have hj : j < l'.length := by
       rcases Nat.lt_or_ge j l'.length with h | h
       · exact h
       · rw [List.getElem?_eq_none h] at hu; cases hu
     rw [zTa hj] at hu
     cases hu
     rw [hnew j hj]
     exact .v (hp _)
 refine ⟨.tup [], h0 ++ [.row e (c * 1) (flat (l'.map (vAv enc)))], g, .tuple #[], hq l' hperm hR, rfl, .tup rfl (fun j u hu => by simp at hu), ?_, ?_, zMb _, fun _ _ => rfl, fun _ _ => rfl, fun i hi h1 => by omega, fun k hk' => hfr k (Nat.le_trans q2 hk')⟩
 · refine ⟨by rw [← hh.n]; simp, fun i hi => Nat.lt_of_lt_of_le (hh.lt i hi) q2, hh.inj, fun i o ho => ?_⟩
   rcases Nat.lt_or_ge i h0.length with hi | hi
   · rw [zXa hi] at ho
     have hig : i < g.n := by omega
     have hne : g.loc i ≠ b := fun e => by
       have := hh.inj i h0.length hig hm (e.trans hb.symm)
       omega
     exact (hh.obj i o (by rw [zXa hi]; exact ho)).keepAt hk ⟨q1 _ (hh.lt i hig) hne, rfl⟩
   · have hie : i = h0.length := by
       rcases Nat.lt_or_ge i (h0.length + 1) with h | h
       · omega
       · rw [List.getElem?_eq_none (by simp; omega)] at ho; cases ho
     subst hie
     rw [heap_last] at ho
     cases ho
     show RowE _ _ _ _ _ (g.loc h0.length)
     rw [hb]; exact hrow'
 · exact ⟨hos.1, hos.2.1, hos.2.2, q2, fun k hk' hno => q1 k hk' fun e => hno _ hm (hb.trans e.symm)⟩
def sortVNil : Vm.Spec := fun args h Q => args = [.v (.slice none 0 0)] ∧ Q (.tup []) h
theorem does_sortVNil {f : FuncId} (hcall : Callable Tryz.prog f) (key : ∀ w : World, Calls Tryz.prog f #[.slice none 0 0] w fun e w' => e = .returned (.tuple #[]) ∧ w' = w) : Does Tryz.prog f sortVNil := by
 refine ⟨hcall, ?_⟩
 rintro args h Q ⟨rfl, hq⟩ w g vs hvs hrep hh hfr hlaid
 have hv0 : vs.getD 0 undef = .slice none 0 0 := (rep_v (hrep 0 _ rfl)).1
 have hvs2 : vs = #[.slice none 0 0] := by
   have h2 : vs.size = 1 := hvs
   apply Array.ext
   · simpa using h2
   · intro i hi1 hi2
     have : i = 0 := by omega
     subst this
     simpa [Array.getD, h2] using hv0
 rw [hvs2]
 refine (key w).mono ?_
 rintro e' w' ⟨rfl, rfl⟩
 exact ⟨.tup [], h, g, .tuple #[], hq, rfl, .tup rfl (fun j u hu => by simp at hu), hh, ⟨rfl, rfl, rfl, zMb _, fun _ _ _ => rfl⟩, zMb _, fun _ _ => rfl, fun _ _ => rfl, fun i hi h1 => by omega, hfr⟩
theorem does_sortS : Does Tryz.prog 160 (orS (sortVSpec strK fun _ => True) sortVNil) :=
 have hc : Callable Tryz.prog 160 := ⟨Tryz.f160, Tryz.func160, by kernel_rfl, by decide +kernel⟩
 does_or (does_sortV strK (fun _ => rfl) (fun _ => rfl) hc fun blk cap l w hH hb hl => (Any.slices_Sort_string Tryz.sortStr blk 0 cap l w hH hb hl).mono fun e w' ⟨h1, n, os, h2⟩ => ⟨h1, n, os, _, ⟨List.mergeSort_perm .., trivial⟩, h2⟩)
   (does_sortVNil hc fun w => Any.slices_Sort_string_none Tryz.sortStr none 0 w)
end Go.Proofs.Lx
namespace Go.Proofs.Lx
open Go.Vm
attribute [local irreducible] awpArr awpBin awpMake awpAppend awpCvX awpStrOf awpBinX awpSlice awpBS awpStore awpAlloc awpCopy awpIndex awpDraw awpIdxX awpFa awpField awpLookup awpUpdate awpDelete awpClear awpRange awpNext awpEntry awpBuild awpClearS awpIdxL awpTree appB awpIdxO eltA treeA
theorem flat_ints (l : List Int) : flat (l.map encI) = l.map encI := by
 induction l with
 | nil => rfl
 | cons x r ih =>
   show encI x :: flat (r.map encI) = _
   rw [ih]; rfl
def ixISpec (T : Tab) : Vm.Spec := fun args h Q => ∃ (g : FuncId) (p : Int → Bool) (l : List Int) (id c e m : Nat), T g = some (predSpec p) ∧ args = [.osl id 0 l.length c, .clo g []] ∧ h[id]? = some (.row e m (l.map encI)) ∧ l.length ≤ 4611686018427387904 ∧ (∀ x ∈ l, p x = false) ∧ Q (.v (.int .i64 (-1))) h
theorem does_ixI {T : Tab} (hT : Good T) : Does Tryz.prog 205 (ixISpec T) := by
 refine dA hT Tryz.func205 rfl (by decide +kernel) ?_
 rintro args h Q ⟨g, p, l, id, c, e, m, hg, rfl, hh, hl, hp, hq⟩
 refine ⟨by simp [Tryz.f205], ?_⟩
 simp -dsimp only [Vm.G, zA, zB, zC, zD, zE, zF, q205.1]
 refine awp_loop (fun m s h' => ∃ i : Nat, i + m = l.length ∧ h' = h ∧ s = mk [(0, .osl id 0 l.length c), (1, .clo g []), (7, .v (.int .i64 l.length)), (8, .v (.int .i64 (i : Nat)))])
   l.length _ (le_mk _ ?_) ⟨0, by omega, rfl, rfl⟩ ?_
 · simp only [Vm.D]
   try simp -dsimp only [Vm.G, zA, zB, zC, zD, zE, zF, q205.1]
   repeat' first | exact .refl _ | exact .nil _ _ _ (by decide) | refine ⟨?_, ?_⟩
 · rintro m s h' ⟨i, hi, rfl, rfl⟩
   simp -dsimp only [Vm.G, zA, zB, zC, zD, zE, zF, q205.1]
   refine cond_intro (fun hcc => ?_) (fun hcc => ?_)
   · have hlt : i < l.length := by have := of_decide_eq_true hcc; omega
     have hw := hwN i (by omega)
     have hd : (l.map encI).drop i = encI l[i] :: (l.map encI).drop (i + 1) := by
       rw [zLb (by rw [zJa]; exact hlt), List.getElem_map]
     have hpx := hp l[i] (zQa hlt)
     generalize l[i] = x at hd hpx
     simp -dsimp only [Vm.G, zA, zB, zC, zD, zE, zF, q205.1]
     refine idxL_intro (by omega) (by omega) ?_
     simp -dsimp only [Vm.G, zA, zB, zC, zD, zE, zF, q205.1, hh, zWa, Nat.mul_one, hd, encI]
     refine call_one (S := predSpec p) hg _ GaL.rfl ⟨x, rfl, ?_⟩
     rw [hpx]
     simp -dsimp only [Vm.G, zA, zB, zC, zD, zE, zF, q205.1]
     refine kept_intro ⟨l.length - (i + 1), by omega, _, le_mk [(0, .osl id 0 l.length c), (1, .clo g []), (7, .v (.int .i64 l.length)), (8, .v (.int .i64 (i + 1 : Nat)))] ?_, i + 1, by omega, rfl, rfl⟩
     simp only [Vm.D, hw]
     try simp -dsimp only [Vm.G, zA, zB, zC, zD, zE, zF, q205.1, hw]
     repeat' first | exact .refl _ | exact .nil _ _ _ (by decide) | refine ⟨?_, ?_⟩
   · simp -dsimp only [Vm.G, zA, zB, zC, zD, zE, zF, q205.1]
     exact hq
def ixINil : Vm.Spec := fun args h Q => ∃ g, args = [.v (.slice none 0 0), .clo g []] ∧ Q (.v (.int .i64 (-1))) h
theorem does_ixINil : Does Tryz.prog 205 ixINil := by
 refine dA good_nil Tryz.func205 rfl (by decide +kernel) ?_
 rintro args h Q ⟨g, rfl, hq⟩
 refine ⟨by simp [Tryz.f205], ?_⟩
 simp -dsimp only [Vm.G, zA, zB, zC, zD, zE, zF, q205.1]
 refine awp_loop (fun m' s h' => h' = h ∧ s = mk [(7, .v (.int .i64 0)), (8, .v (.int .i64 0))]) 0 _ (le_mk _ ?_) ⟨rfl, rfl⟩ ?_
 · simp only [Vm.D]
   try simp -dsimp only [Vm.G, zA, zB, zC, zD, zE, zF, q205.1]
   repeat' first | exact .refl _ | exact .nil _ _ _ (by decide) | refine ⟨?_, ?_⟩
 · rintro m' s h' ⟨rfl, rfl⟩
   simp -dsimp only [Vm.G, zA, zB, zC, zD, zE, zF, q205.1]
   refine cond_intro (fun hcc => ?_) (fun hcc => ?_)
   · have := of_decide_eq_true hcc
     omega
   · simp -dsimp only [Vm.G, zA, zB, zC, zD, zE, zF, q205.1]
     exact hq
def delISpec (T : Tab) : Vm.Spec := fun args h Q => ∃ (g : FuncId) (p : Int → Bool) (l : List Int) (id c e m : Nat), T g = some (predSpec p) ∧ args = [.osl id 0 l.length c, .clo g []] ∧ h[id]? = some (.row e m (l.map encI)) ∧ l.length ≤ 4611686018427387904 ∧ (∀ x ∈ l, p x = false) ∧ Q (.osl id 0 l.length c) h
theorem does_delI {T T2 : Tab} (hT : Good T) (hg0 : T 205 = some (orS (ixISpec T2) ixINil)) : Does Tryz.prog 154 (delISpec T2) := by
 refine dA hT Tryz.func154 rfl (by decide +kernel) ?_
 rintro args h Q ⟨g, p, l, id, c, e, m, hg, rfl, hh, hl, hp, hq⟩
 refine ⟨by simp [Tryz.f154], ?_⟩
 simp -dsimp only [Vm.G, zA, zB, zC, zD, zE, zF, q154.1]
 refine call_one (S := orS (ixISpec T2) ixINil) hg0 _ GaL.rfl (.inl ⟨g, p, l, id, c, e, m, hg, rfl, hh, hl, hp, ?_⟩)
 simp -dsimp only [Vm.G, zA, zB, zC, zD, zE, zF, q154.1, beq_self_eq_true]
 exact hq
def delINil : Vm.Spec := fun args h Q => ∃ g, args = [.v (.slice none 0 0), .clo g []] ∧ Q (.v (.slice none 0 0)) h
theorem does_delINil {T T2 : Tab} (hT : Good T) (hg0 : T 205 = some (orS (ixISpec T2) ixINil)) : Does Tryz.prog 154 delINil := by
 refine dA hT Tryz.func154 rfl (by decide +kernel) ?_
 rintro args h Q ⟨g, rfl, hq⟩
 refine ⟨by simp [Tryz.f154], ?_⟩
 simp -dsimp only [Vm.G, zA, zB, zC, zD, zE, zF, q154.1]
 refine call_one (S := orS (ixISpec T2) ixINil) hg0 _ GaL.rfl (.inr ⟨g, rfl, ?_⟩)
 simp -dsimp only [Vm.G, zA, zB, zC, zD, zE, zF, q154.1, beq_self_eq_true]
 exact hq
def objP (n : Int) : Bool := decide (1000 ≤ n) && decide (n ≤ 5999)
theorem does_objP : Does Tryz.prog 76 (predSpec objP) := by
 refine dA (good_cons does_withinC good_nil) Tryz.func76 rfl (by decide +kernel) ?_
 rintro args h Q ⟨n, rfl, hq⟩
 refine ⟨by simp [Tryz.f76], ?_⟩
 unfold objP at hq
 simp -dsimp only [Vm.G, zA, zB, zC, zD, zE, zF, q76.1]
 refine call_one (S := withinSpec) rfl _ GaL.rfl ⟨n, 1000, 5999, rfl, ?_⟩
 simp -dsimp only [Vm.G, zA, zB, zC, zD, zE, zF, q76.1]
 exact hq
def cOwnSpec : Vm.Spec := fun args h Q => ∃ (V : VId) (f : Fun), args = [.ptr V.iv 0] ∧ isView h V f ∧ f.n ≤ 536870912 ∧ (∀ l, ScanIs f [79] l → ∀ x ∈ allF l, fixedP x = false) ∧
 ∀ l h', ScanIs f [79] l → l.length ≤ 2 * f.n → isView h' V f → Same h h' [] → Q (.own true 3 1 ((allF l).map encI)) h'
def cNewObjSpec : Vm.Spec := fun args h Q => ∃ (V : VId) (f : Fun) (n : Int), args = [.ptr V.iv 0, .v (.int .i64 n)] ∧ isView h V f ∧ f.n ≤ 536870912 ∧ objP n = true ∧ objOk f n = false ∧ (∀ l, ScanIs f [79] l → allF l = []) ∧
 ∀ h', isView h' V (upd f (objK n) (some [])) → Same h h' [V.ic] → Q (.v (.int .i64 0)) h'
end Go.Proofs.Lx
namespace Go.Proofs.Lx
open Go.Vm
def limitF (f : Fun) (n : Nd) (to g : Int) : Fun × Bool × Int :=
 if to < 0 ∨ to > 1152921504606846976 then (f, false, 9)
 else if g > to ∨ (n.abs = true ∧ usedOf n > to) then (f, false, 11)
 else (upd f (ndK { n with limit := to }) (some (ndV { n with limit := to })), decide (usedOf n > to), 0)
def classOf (o : Int) : Int := if objP o = true then o.tdiv 1000 else 0
def fairN (n : Nd) : Int := if n.id < 1 ∨ n.id > 999 then 1 else if n.limit < 0 ∨ n.limit > 9007199254740992 then 1 else if classOf n.obj ≠ 5 then 1 else 0
def knownN (f : Fun) (n : Nd) : Bool := (f (fundK n.fund)).isSome && (objOk f n.obj && ((n.parent == 0) || (nodeAt f n.year n.parent).isSome))
def belowN (f : Fun) (n : Nd) (g : Int) : Int :=
 if n.parent = 0 then 0 else if 8 ≤ (pathOf f n.year 8 n.parent).length then 1 else if w64 (g + n.limit) > ((pathOf f n.year 8 n.parent).headD .zero).limit then 11 else 0
def bareOf (n : Nd) : Nd := { n with pre := 0, enc := 0, exp := 0, lapsed := 0, carried := 0 }
def shiftNew (f : Fun) (n : Nd) (g : Int) : Fun × Int :=
 if checkY f n.year ≠ 0 then (f, checkY f n.year)
 else if fairN n ≠ 0 then (f, fairN n)
 else if knownN f n = false then (f, 7)
 else if (nodeAt f n.year n.id).isSome = true then (f, 8)
 else if belowN f n g ≠ 0 then (f, belowN f n g)
 else (upd f (ndK (bareOf n)) (some (ndV (bareOf n))), 0)
def amendF (f : Fun) (year id more g k : Int) : Fun × Bool × Int :=
 if checkY f year ≠ 0 then (f, false, checkY f year)
 else if more > 9007199254740992 ∨ more < -9007199254740992 then (f, false, 9)
 else match nodeAt f year id with
   | none => (f, false, 7)
   | some n => match nodeAt f year n.parent with
     | some up => if w64 (g + more) > up.limit then (f, false, 11) else limitF f n (w64 (n.limit + more)) k
     | none => limitF f n (w64 (n.limit + more)) k
def moveF (f : Fun) (year frm to part ka kz : Int) : Fun × Bool × Int :=
 if checkY f year ≠ 0 then (f, false, checkY f year)
 else if rightA part = false ∨ frm = to then (f, false, 1)
 else match nodeAt f year frm, nodeAt f year to with
   | some a, some z => if a.parent ≠ z.parent then (f, false, 12)
     else if (limitF f a (w64 (a.limit - part)) ka).2.2 ≠ 0 then ((limitF f a (w64 (a.limit - part)) ka).1, false, (limitF f a (w64 (a.limit - part)) ka).2.2)
     else ((limitF (limitF f a (w64 (a.limit - part)) ka).1 z (w64 (z.limit + part)) kz).1, (limitF (limitF f a (w64 (a.limit - part)) ka).1 z (w64 (z.limit + part)) kz).2.2 == 0 && ((limitF f a (w64 (a.limit - part)) ka).2.1 || (limitF (limitF f a (w64 (a.limit - part)) ka).1 z (w64 (z.limit + part)) kz).2.1), (limitF (limitF f a (w64 (a.limit - part)) ka).1 z (w64 (z.limit + part)) kz).2.2)
   | _, _ => (f, false, 7)
theorem limit_ok {n : Nd} {to : Int} (h : n.ok) (ht : 0 ≤ to ∧ to ≤ 1152921504606846976) : Nd.ok { n with limit := to } := by
 obtain ⟨h1, h2, h3, h4, h5, h6, h7, h8, h9, h10, h11⟩ := h
 exact ⟨h1, h2, h3, h4, h5, by show I64 to; unfold I64; omega, h7, h8, h9, h10, h11⟩
theorem bare_ok {n : Nd} (h : n.ok) : (bareOf n).ok := by
 obtain ⟨h1, h2, h3, h4, h5, h6, h7, h8, h9, h10, h11⟩ := h
 have z : I64 0 := by unfold I64; omega
 exact ⟨h1, h2, h3, h4, h5, h6, z, z, z, z, z⟩
def lessC (kind part : Int) : Chg := if kind = 1 then ⟨w64 (0 - part), 0, 0⟩ else if kind = 2 then ⟨0, w64 (0 - part), 0⟩ else ⟨0, 0, 0⟩
def cancelF (f : Fun) (doc line part : Int) : Fun × Int :=
 if rightA part = false then (f, 1)
 else match docAt f doc with
   | none => (f, 7)
   | some (d, l) => if line < 0 ∨ line ≥ l.length then (f, 7)
     else if checkY f d.year ≠ 0 then (f, checkY f d.year)
     else if d.kind = 3 ∨ openD (l.getD line.toNat .zero) < part then (f, 12)
     else if (chargeOf f d.year (l.getD line.toNat .zero).node (lessC d.kind part)).2.2 ≠ 0 then ((chargeOf f d.year (l.getD line.toNat .zero).node (lessC d.kind part)).1, (chargeOf f d.year (l.getD line.toNat .zero).node (lessC d.kind part)).2.2)
     else docsSet (chargeOf f d.year (l.getD line.toNat .zero).node (lessC d.kind part)).1 doc line { l.getD line.toNat .zero with can := w64 ((l.getD line.toNat .zero).can + part) }
def begF : Fun := upd (upd (openOf noF 2020).1 (fundK 100) (some [97])) (objK 5010) (some [])
end Go.Proofs.Lx
namespace Go.Proofs.Lx
open Go.Vm
attribute [local irreducible] awpArr awpBin awpMake awpAppend awpCvX awpStrOf awpBinX awpSlice awpBS awpStore awpAlloc awpCopy awpIndex awpDraw awpIdxX awpFa awpField awpLookup awpUpdate awpDelete awpClear awpRange awpNext awpEntry awpBuild awpClearS awpIdxL awpTree appB awpIdxO eltA treeA
noncomputable def underF (f : Fun) (y i : Int) : Int := open Classical in if h : ∃ l, ScanIs f (keyOf 78 [y]) l then w64s ((kidsN y i (Classical.choose h)).map (·.limit)) else 0
theorem underF_eq {f : Fun} {y : Int} {l : List KV} (h : ScanIs f (keyOf 78 [y]) l) (i : Int) : underF f y i = w64s ((kidsN y i l).map (·.limit)) := by
 unfold underF
 rw [dif_pos ⟨l, h⟩, (Classical.choose_spec (⟨l, h⟩ : ∃ l, ScanIs f (keyOf 78 [y]) l)).same h]
def shGivenSpec : Vm.Spec := fun args h Q => ∃ (V : VId) (f : Fun) (year id : Int), args = [.agg [.ptr V.iv 0, .v (.int .i64 year)], .v (.int .i64 id)] ∧ isView h V f ∧ f.n ≤ 536870912 ∧ ∀ h', isView h' V f → Same h h' [] → Q (.v (.int .i64 (underF f year id))) h'
theorem does_shGiven : Does Tryz.prog 99 shGivenSpec := by
 refine dA (good_cons does_tkids (good_cons does_given good_nil)) Tryz.func99 rfl (by decide +kernel) ?_
 rintro args h Q ⟨V, f, year, id, rfl, hV, hn, hq⟩
 refine ⟨by simp [Tryz.f99], ?_⟩
 simp -dsimp only [Vm.G, zA, zB, zC, zD, zE, zF, q99.1]
 refine call_one (S := tkidsSpec) rfl _ GaL.rfl ⟨V, f, year, id, rfl, hV, hn, fun l h1 hsc hln hV1 hs1 => ?_⟩
 have hu := underF_eq hsc id
 have hkl : (kidsN year id l).length ≤ l.length := Nat.le_trans (zQb ..) (zOb ..)
 simp -dsimp only [Vm.G, zA, zB, zC, zD, zE, zF, q99.1]
 refine call_one (S := givenSpec) rfl _ GaL.rfl ⟨kidsN year id l, by omega, rfl, ?_⟩
 rw [← hu]
 simp -dsimp only [Vm.G, zA, zB, zC, zD, zE, zF, q99.1]
 exact hq h1 hV1 hs1
def classSpec : Vm.Spec := fun args h Q => ∃ n : Int, args = [.v (.int .i64 n)] ∧ Q (.v (.int .i64 (classOf n))) h
theorem does_class : Does Tryz.prog 135 classSpec := by
 refine dA (good_cons does_objP good_nil) Tryz.func135 rfl (by decide +kernel) ?_
 rintro args h Q ⟨n, rfl, hq⟩
 refine ⟨by simp [Tryz.f135], ?_⟩
 unfold classOf at hq
 simp -dsimp only [Vm.G, zA, zB, zC, zD, zE, zF, q135.1]
 refine call_one (S := predSpec objP) rfl _ GaL.rfl ⟨n, rfl, ?_⟩
 have h0 := zIa (objP n)
 rcases h0 with c | c
 · have hr : 1000 ≤ n ∧ n ≤ 5999 := by unfold objP at c; simpa using c
   have hw : IntKind.i64.wrap (n.tdiv 1000) = n.tdiv 1000 := by
     have : n.tdiv 1000 = n / 1000 := Int.tdiv_eq_ediv_of_nonneg (by omega)
     rw [this]
     exact wrap_i64 (by omega) (by omega)
   rw [if_pos c] at hq
   simp -dsimp only [Vm.G, zA, zB, zC, zD, zE, zF, q135.1, c]
   refine quo_intro (by decide) ?_
   simp -dsimp only [Vm.G, zA, zB, zC, zD, zE, zF, q135.1, hw]
   exact hq
 · rw [c] at hq
   simp only [Bool.false_eq_true, if_false] at hq
   simp -dsimp only [Vm.G, zA, zB, zC, zD, zE, zF, q135.1, c]
   exact hq
def fairSpec : Vm.Spec := fun args h Q => ∃ n : Nd, args = [.agg (ndCells n)] ∧ Q (.v (.int .i64 (fairN n))) h
theorem does_fair : Does Tryz.prog 54 fairSpec := by
 refine dA (good_cons does_class good_nil) Tryz.func54 rfl (by decide +kernel) ?_
 rintro args h Q ⟨n, rfl, hq⟩
 refine ⟨by simp [Tryz.f54], ?_⟩
 unfold fairN at hq
 simp only [ndCells]
 by_cases h1 : n.id < 1
 · rw [if_pos (.inl h1)] at hq
   have c1 : decide (n.id < 1) = true := decide_eq_true h1
   simp -dsimp only [Vm.G, zA, zB, zC, zD, zE, zF, q54.1, c1]
   exact hq
 · have c1 : decide (n.id < 1) = false := decide_eq_false h1
   by_cases h2 : n.id > 999
   · rw [if_pos (.inr h2)] at hq
     have c2 : decide (n.id > 999) = true := decide_eq_true h2
     simp -dsimp only [Vm.G, zA, zB, zC, zD, zE, zF, q54.1, c1, c2]
     exact hq
   · rw [if_neg (by omega)] at hq
     have c2 : decide (n.id > 999) = false := decide_eq_false h2
     by_cases h3 : n.limit < 0
     · rw [if_pos (.inl h3)] at hq
       have c3 : decide (n.limit < 0) = true := decide_eq_true h3
       simp -dsimp only [Vm.G, zA, zB, zC, zD, zE, zF, q54.1, c1, c2, c3]
       exact hq
     · have c3 : decide (n.limit < 0) = false := decide_eq_false h3
       by_cases h4 : n.limit > 9007199254740992
       · rw [if_pos (.inr h4)] at hq
         have c4 : decide (n.limit > 9007199254740992) = true := decide_eq_true h4
         simp -dsimp only [Vm.G, zA, zB, zC, zD, zE, zF, q54.1, c1, c2, c3, c4]
         exact hq
       · rw [if_neg (by omega)] at hq
         have c4 : decide (n.limit > 9007199254740992) = false := decide_eq_false h4
         simp -dsimp only [Vm.G, zA, zB, zC, zD, zE, zF, q54.1, c1, c2, c3, c4]
         refine call_one (S := classSpec) rfl _ GaL.rfl ⟨n.obj, rfl, ?_⟩
         have h0 := zIa (classOf n.obj != 5)
         rcases h0 with c | c
         · rw [if_pos (by simpa using c)] at hq
           simp -dsimp only [Vm.G, zA, zB, zC, zD, zE, zF, q54.1, c]
           exact hq
         · rw [if_neg (by simpa using c)] at hq
           simp -dsimp only [Vm.G, zA, zB, zC, zD, zE, zF, q54.1, c]
           exact hq
def knownSpec : Vm.Spec := fun args h Q => ∃ (V : VId) (f : Fun) (n : Nd) (y : Int), args = [.agg [.ptr V.iv 0, .v (.int .i64 y)], .agg (ndCells n)] ∧ isView h V f ∧ Q (.v (.bool (knownN f n))) h
theorem does_known : Does Tryz.prog 55 knownSpec := by
 refine dA (good_cons does_cFund (good_cons does_tget (good_cons does_cObj good_nil))) Tryz.func55 rfl (by decide +kernel) ?_
 rintro args h Q ⟨V, f, n, y, rfl, hV, hq⟩
 refine ⟨by simp [Tryz.f55], ?_⟩
 simp only [ndCells]
 unfold knownN at hq
 simp -dsimp only [Vm.G, zA, zB, zC, zD, zE, zF, q55.1]
 refine call_one (S := cFundSpec) rfl _ GaL.rfl ⟨V, f, n.fund, rfl, hV, fun s hs => ?_, fun hs => ?_⟩
 · rw [hs] at hq
   simp only [Option.isSome_some, Bool.true_and] at hq
   simp -dsimp only [Vm.G, zA, zB, zC, zD, zE, zF, q55.1]
   refine call_one (S := tgetSpec) rfl _ GaL.rfl ⟨V, f, n.year, n.parent, rfl, hV, fun m hm => ?_, fun hm => ?_⟩
   · rw [hm] at hq
     simp only [Option.isSome_some, Bool.or_true, Bool.and_true] at hq
     simp only [ndCells]
     simp -dsimp only [Vm.G, zA, zB, zC, zD, zE, zF, q55.1]
     refine call_one (S := cObjSpec) rfl _ GaL.rfl ⟨V, f, n.obj, rfl, hV, ?_⟩
     have h0 := zIa (objOk f n.obj)
     rcases h0 with c | c
     · rw [c] at hq
       have h0 := zIa (n.parent == 0)
       rcases h0 with c2 | c2
       · simp -dsimp only [Vm.G, zA, zB, zC, zD, zE, zF, q55.1, c, c2]
         exact hq
       · simp -dsimp only [Vm.G, zA, zB, zC, zD, zE, zF, q55.1, c, c2]
         exact hq
     · rw [c] at hq
       simp -dsimp only [Vm.G, zA, zB, zC, zD, zE, zF, q55.1, c]
       exact hq
   · rw [hm] at hq
     simp only [Option.isSome_none, Bool.or_false] at hq
     simp only [ndCells]
     simp -dsimp only [Vm.G, zA, zB, zC, zD, zE, zF, q55.1]
     refine call_one (S := cObjSpec) rfl _ GaL.rfl ⟨V, f, n.obj, rfl, hV, ?_⟩
     have h0 := zIa (objOk f n.obj)
     rcases h0 with c | c
     · rw [c] at hq
       have h0 := zIa (n.parent == 0)
       rcases h0 with c2 | c2
       · rw [c2] at hq
         simp -dsimp only [Vm.G, zA, zB, zC, zD, zE, zF, q55.1, c, c2]
         exact hq
       · rw [c2] at hq
         simp -dsimp only [Vm.G, zA, zB, zC, zD, zE, zF, q55.1, c, c2]
         exact hq
     · rw [c] at hq
       simp -dsimp only [Vm.G, zA, zB, zC, zD, zE, zF, q55.1, c]
       exact hq
 · rw [hs] at hq
   simp only [Option.isSome_none, zSa] at hq
   simp -dsimp only [Vm.G, zA, zB, zC, zD, zE, zF, q55.1]
   refine call_one (S := tgetSpec) rfl _ GaL.rfl ⟨V, f, n.year, n.parent, rfl, hV, fun m hm => ?_, fun hm => ?_⟩
   · simp only [ndCells]
     simp -dsimp only [Vm.G, zA, zB, zC, zD, zE, zF, q55.1]
     exact hq
   · simp only [ndCells]
     simp -dsimp only [Vm.G, zA, zB, zC, zD, zE, zF, q55.1]
     exact hq
def belowSpec : Vm.Spec := fun args h Q => ∃ (V : VId) (f : Fun) (n : Nd), args = [.agg [.ptr V.iv 0, .v (.int .i64 n.year)], .agg (ndCells n)] ∧ isView h V f ∧ f.n ≤ 536870912 ∧ (n.parent ≠ 0 → (nodeAt f n.year n.parent).isSome = true) ∧
 ∀ h', isView h' V f → Same h h' [] → Q (.v (.int .i64 (belowN f n (underF f n.year n.parent)))) h'
theorem path_hdS {f : Fun} {y i : Int} (h : (nodeAt f y i).isSome = true) : ∃ p r, pathOf f y 8 i = p :: r := by
 cases hn : nodeAt f y i with
 | none => rw [hn] at h; cases h
 | some p =>
   unfold pathOf
   rw [hn]
   simp only
   split <;> exact ⟨_, _, rfl⟩
theorem does_below : Does Tryz.prog 57 belowSpec := by
 refine dA (good_cons does_tpath (good_cons does_shGiven good_nil)) Tryz.func57 rfl (by decide +kernel) ?_
 rintro args h Q ⟨V, f, n, rfl, hV, hn, hup, hq⟩
 refine ⟨by simp [Tryz.f57], ?_⟩
 unfold belowN at hq
 simp only [ndCells]
 by_cases h1 : n.parent = 0
 · have c1 : (n.parent == 0) = true := by simpa using h1
   rw [if_pos h1] at hq
   simp -dsimp only [Vm.G, zA, zB, zC, zD, zE, zF, q57.1, c1]
   exact hq h hV (.refl _ _)
 · have c1 : (n.parent == 0) = false := by simpa using h1
   rw [if_neg h1] at hq
   have hpe := path_hdS (hup h1)
   rcases hpe with ⟨p, r, hpr⟩
   simp -dsimp only [Vm.G, zA, zB, zC, zD, zE, zF, q57.1, c1]
   refine call_one (S := tpathSpec) rfl _ GaL.rfl ⟨V, f, n.year, n.parent, rfl, hV, ?_⟩
   generalize pathOf f n.year 8 n.parent = P at hpr hq ⊢
   by_cases h2 : 8 ≤ P.length
   · have c2 : decide ((P.length : Int) ≥ 8) = true := decide_eq_true (by omega)
     rw [if_pos h2] at hq
     simp -dsimp only [Vm.G, zA, zB, zC, zD, zE, zF, q57.1, c2, zJa]
     exact hq h hV (.refl _ _)
   · have c2 : decide ((P.length : Int) ≥ 8) = false := decide_eq_false (by omega)
     rw [if_neg h2] at hq
     have hgl : (P.map ndAv)[0]? = some (ndAv p) := by rw [hpr]; rfl
     have hhd : P.headD .zero = p := by rw [hpr]; rfl
     have hPl : 0 < P.length := by rw [hpr]; simp
     rw [hhd] at hq
     simp -dsimp only [Vm.G, zA, zB, zC, zD, zE, zF, q57.1, c2, zJa]
     refine draw_cont [2, 3] (.take 0 (.take 1 (.take 2 (.take 4 (.take 5 (.take 7 (.take 8 (.take 9 (.alt 3 (.take 6 (.alt 10 (.take 11 (.alt 12 (.done) .stop)) .stop)) (.alt 10 (.alt 3 (.take 6 (.take 11 (.alt 12 (.done) .stop))) .stop) (.stop))))))))))) (fun s h' => isView h' V f ∧ Same h h' [] ∧ s 20 = .v (.bool (decide (w64 (underF f n.year n.parent + n.limit) > p.limit)))) (by kernel_rfl) (by kernel_rfl) (by kernel_rfl) (by decide) ?_ ?_
     · clear hq
       repeat' first
         | with_reducible exact True.intro
         | refine call_one (S := shGivenSpec) rfl _ GaL.rfl ⟨V, f, n.year, n.parent, rfl, hV, hn, fun h1 hV1 hs1 => ?_⟩
         | (refine eltA_intro hgl ?_; simp only [ndAv, ndCells])
         | refine idxO_intro (by omega) (by simp; omega) ?_
         | simp -dsimp only [Vm.G, zA, zB, zC, zD, zE, zF, q57.1, AV.cells, zNb, zJa, Int.toNat_zero]
         | refine tree_alt ?_ ?_
         | refine ⟨hV1, hs1, ?_⟩
         | repeat' first | rfl | exact True.intro | refine And.intro ?_ ?_
     · rintro s h' ⟨hV1, hs1, e20⟩
       have hq' := hq h' hV1 hs1
       by_cases h3 : w64 (underF f n.year n.parent + n.limit) > p.limit
       · rw [if_pos h3] at hq'
         rw [decide_eq_true h3] at e20
         simp -dsimp only [Vm.G, zA, zB, zC, zD, zE, zF, q57.1, e20]
         exact hq'
       · rw [if_neg h3] at hq'
         rw [decide_eq_false h3] at e20
         simp -dsimp only [Vm.G, zA, zB, zC, zD, zE, zF, q57.1, e20]
         exact hq'
noncomputable def shNew (f : Fun) (n : Nd) : Fun × Int := shiftNew f n (underF f n.year n.parent)
def shNewSpec : Vm.Spec := fun args h Q => ∃ (V : VId) (f : Fun) (n : Nd), n.ok ∧ args = [.ptr V.iv 0, .agg (ndCells n)] ∧ isView h V f ∧ f.n ≤ 536870912 ∧ ∀ h', isView h' V (shNew f n).1 → Same h h' [V.ic] → Q (.v (.int .i64 (shNew f n).2)) h'
theorem Same.wideN {h h' : Heap} {fp : List Nat} (hs : Same h h' []) : Same h h' fp := ⟨hs.1, fun i hi _ => hs.2 i hi (by simp)⟩
theorem does_shNew : Does Tryz.prog 19 shNewSpec := by
 refine dA (good_cons does_yCheck (good_cons does_fair (good_cons does_known (good_cons does_tget (good_cons does_below (good_cons does_tput good_nil)))))) Tryz.func19 rfl (by decide +kernel) ?_
 rintro args h Q ⟨V, f, n, hok, rfl, hV, hn, hq⟩
 refine ⟨by simp [Tryz.f19], ?_⟩
 unfold shNew shiftNew at hq
 simp only [ndCells]
 simp -dsimp only [Vm.G, zA, zB, zC, zD, zE, zF, q19.1]
 refine call_one (S := yCheckSpec) rfl _ GaL.rfl ⟨V, f, n.year, rfl, hV, ?_⟩
 have h0 := zIa (checkY f n.year != 0)
 rcases h0 with c1 | c1
 · rw [if_pos (by simpa using c1)] at hq
   simp -dsimp only [Vm.G, zA, zB, zC, zD, zE, zF, q19.1, c1]
   exact hq h hV (.refl _ _)
 · rw [if_neg (by simpa using c1)] at hq
   simp -dsimp only [Vm.G, zA, zB, zC, zD, zE, zF, q19.1, c1]
   refine call_one (S := fairSpec) rfl _ GaL.rfl ⟨n, rfl, ?_⟩
   have h0 := zIa (fairN n != 0)
   rcases h0 with c2 | c2
   · rw [if_pos (by simpa using c2)] at hq
     simp -dsimp only [Vm.G, zA, zB, zC, zD, zE, zF, q19.1, c2]
     exact hq h hV (.refl _ _)
   · rw [if_neg (by simpa using c2)] at hq
     simp -dsimp only [Vm.G, zA, zB, zC, zD, zE, zF, q19.1, c2]
     refine call_one (S := knownSpec) rfl _ GaL.rfl ⟨V, f, n, n.year, rfl, hV, ?_⟩
     have h0 := zIa (knownN f n)
     rcases h0 with c3 | c3
     · rw [if_neg (by rw [c3]; decide)] at hq
       simp -dsimp only [Vm.G, zA, zB, zC, zD, zE, zF, q19.1, c3]
       have hup : n.parent ≠ 0 → (nodeAt f n.year n.parent).isSome = true := fun hp => by
         unfold knownN at c3
         simp only [Bool.and_eq_true, Bool.or_eq_true, beq_iff_eq] at c3
         exact c3.2.2.resolve_left hp
       refine call_one (S := tgetSpec) rfl _ GaL.rfl ⟨V, f, n.year, n.id, rfl, hV, fun m hm => ?_, fun hm => ?_⟩
       · rw [if_pos (by rw [hm]; rfl)] at hq
         simp only [ndCells]
         simp -dsimp only [Vm.G, zA, zB, zC, zD, zE, zF, q19.1]
         exact hq h hV (.refl _ _)
       · rw [if_neg (by rw [hm]; decide)] at hq
         simp only [ndCells]
         simp -dsimp only [Vm.G, zA, zB, zC, zD, zE, zF, q19.1]
         refine call_one (S := belowSpec) rfl _ GaL.rfl ⟨V, f, n, rfl, hV, hn, hup, fun h1 hV1 hs1 => ?_⟩
         have h0 := zIa (belowN f n (underF f n.year n.parent) != 0)
         rcases h0 with c4 | c4
         · rw [if_pos (by simpa using c4)] at hq
           simp -dsimp only [Vm.G, zA, zB, zC, zD, zE, zF, q19.1, c4]
           exact hq h1 hV1 hs1.wideN
         · rw [if_neg (by simpa using c4)] at hq
           simp -dsimp only [Vm.G, zA, zB, zC, zD, zE, zF, q19.1, c4]
           refine call_one (S := tputSpec) rfl _ GaL.rfl ⟨V, f, bareOf n, rfl, bare_ok hok, hV1, fun h2 hV2 hs2 => ?_⟩
           simp -dsimp only [Vm.G, zA, zB, zC, zD, zE, zF, q19.1]
           exact hq h2 hV2 (hs1.wideN.trans hs2)
     · rw [if_pos c3] at hq
       simp -dsimp only [Vm.G, zA, zB, zC, zD, zE, zF, q19.1, c3]
       exact hq h hV (.refl _ _)
def shLimitSpec : Vm.Spec := fun args h Q => ∃ (V : VId) (f : Fun) (n : Nd) (to : Int), n.ok ∧ args = [.agg [.ptr V.iv 0, .v (.int .i64 n.year)], .agg (ndCells n), .v (.int .i64 to)] ∧ isView h V f ∧ f.n ≤ 536870912 ∧
 ∀ h', isView h' V (limitF f n to (underF f n.year n.id)).1 → Same h h' [V.ic] → Q (.tup [.v (.bool (limitF f n to (underF f n.year n.id)).2.1), .v (.int .i64 (limitF f n to (underF f n.year n.id)).2.2)]) h'
theorem does_shLimit : Does Tryz.prog 100 shLimitSpec := by
 refine dA (good_cons does_used (good_cons does_shGiven (good_cons does_tput good_nil))) Tryz.func100 rfl (by decide +kernel) ?_
 rintro args h Q ⟨V, f, n, to, hok, rfl, hV, hn, hq⟩
 refine ⟨by simp [Tryz.f100], ?_⟩
 unfold limitF at hq
 simp only [ndCells]
 simp -dsimp only [Vm.G, zA, zB, zC, zD, zE, zF, q100.1]
 refine call_one (S := usedSpec) rfl _ GaL.rfl ⟨n, rfl, ?_⟩
 by_cases h1 : to < 0
 · have c1 : decide (to < 0) = true := decide_eq_true h1
   rw [if_pos (.inl h1)] at hq
   simp -dsimp only [Vm.G, zA, zB, zC, zD, zE, zF, q100.1, c1]
   exact hq h hV (.refl _ _)
 · have c1 : decide (to < 0) = false := decide_eq_false h1
   by_cases h2 : to > 1152921504606846976
   · have c2 : decide (to > 1152921504606846976) = true := decide_eq_true h2
     rw [if_pos (.inr h2)] at hq
     simp -dsimp only [Vm.G, zA, zB, zC, zD, zE, zF, q100.1, c1, c2]
     exact hq h hV (.refl _ _)
   · have c2 : decide (to > 1152921504606846976) = false := decide_eq_false h2
     rw [if_neg (by omega)] at hq
     simp -dsimp only [Vm.G, zA, zB, zC, zD, zE, zF, q100.1, c1, c2]
     refine call_one (S := shGivenSpec) rfl _ GaL.rfl ⟨V, f, n.year, n.id, rfl, hV, hn, fun h3 hV3 hs3 => ?_⟩
     generalize underF f n.year n.id = g at hq ⊢
     by_cases h4 : g > to
     · have c4 : decide (g > to) = true := decide_eq_true h4
       rw [if_pos (.inl h4)] at hq
       simp -dsimp only [Vm.G, zA, zB, zC, zD, zE, zF, q100.1, c4]
       exact hq h3 hV3 hs3.wideN
     · have c4 : decide (g > to) = false := decide_eq_false h4
       have hbe : ∃ b, decide (usedOf n > to) = b := ⟨_, rfl⟩
       rcases hbe with ⟨b, hb⟩
       have hae : ∃ a, n.abs = a := ⟨_, rfl⟩
       rcases hae with ⟨a, ha⟩
       have hput := limit_ok (to := to) hok (by omega)
       rw [hb] at hq
       cases a
       · rw [if_neg (by rw [ha]; rintro (h | ⟨h, -⟩); exact h4 h; cases h)] at hq
         simp -dsimp only [Vm.G, zA, zB, zC, zD, zE, zF, q100.1, c4, ha, hb]
         refine call_one (S := tputSpec) rfl _ GaL.rfl ⟨V, f, { n with limit := to }, by simp only [ndCells, ha], hput, hV3, fun h5 hV5 hs5 => ?_⟩
         simp -dsimp only [Vm.G, zA, zB, zC, zD, zE, zF, q100.1]
         exact hq h5 hV5 (hs3.wideN.trans hs5)
       · cases b
         · have h6 : ¬ usedOf n > to := of_decide_eq_false hb
           rw [if_neg (by rintro (h | ⟨-, h⟩); exact h4 h; exact h6 h)] at hq
           simp -dsimp only [Vm.G, zA, zB, zC, zD, zE, zF, q100.1, c4, ha, hb]
           refine call_one (S := tputSpec) rfl _ GaL.rfl ⟨V, f, { n with limit := to }, by simp only [ndCells, ha], hput, hV3, fun h5 hV5 hs5 => ?_⟩
           simp -dsimp only [Vm.G, zA, zB, zC, zD, zE, zF, q100.1]
           exact hq h5 hV5 (hs3.wideN.trans hs5)
         · have h6 : usedOf n > to := of_decide_eq_true hb
           rw [if_pos (.inr ⟨ha, h6⟩)] at hq
           simp -dsimp only [Vm.G, zA, zB, zC, zD, zE, zF, q100.1, c4, ha, hb]
           exact hq h3 hV3 hs3.wideN
noncomputable def shAmend (f : Fun) (year id more : Int) : Fun × Bool × Int := amendF f year id more (match nodeAt f year id with | some n => underF f year n.parent | none => 0) (underF f year id)
theorem limit_n (f : Fun) (n : Nd) (to g : Int) : (limitF f n to g).1.n ≤ f.n + 1 := by
 unfold limitF
 split
 · exact Nat.le_succ _
 · split
   · exact Nat.le_succ _
   · exact zMb _
def shAmendSpec : Vm.Spec := fun args h Q => ∃ (V : VId) (f : Fun) (year id more : Int), I64 more ∧ args = [.ptr V.iv 0, .v (.int .i64 year), .v (.int .i64 id), .v (.int .i64 more)] ∧ isView h V f ∧ f.n ≤ 536870912 ∧
 ∀ h', isView h' V (shAmend f year id more).1 → Same h h' [V.ic] → Q (.tup [.v (.bool (shAmend f year id more).2.1), .v (.int .i64 (shAmend f year id more).2.2)]) h'
theorem does_shAmend : Does Tryz.prog 36 shAmendSpec := by
 refine dA (good_cons does_yCheck (good_cons does_tget (good_cons does_shGiven (good_cons does_shLimit good_nil)))) Tryz.func36 rfl (by decide +kernel) ?_
 rintro args h Q ⟨V, f, year, id, more, hmo, rfl, hV, hn, hq⟩
 refine ⟨by simp [Tryz.f36], ?_⟩
 unfold shAmend amendF at hq
 simp -dsimp only [Vm.G, zA, zB, zC, zD, zE, zF, q36.1]
 refine call_one (S := yCheckSpec) rfl _ GaL.rfl ⟨V, f, year, rfl, hV, ?_⟩
 have h0 := zIa (checkY f year != 0)
 rcases h0 with c1 | c1
 · rw [if_pos (by simpa using c1)] at hq
   simp -dsimp only [Vm.G, zA, zB, zC, zD, zE, zF, q36.1, c1]
   exact hq h hV (.refl _ _)
 · rw [if_neg (by simpa using c1)] at hq
   have h0 := zIa (decide (more > 9007199254740992))
   rcases h0 with c2 | c2
   · rw [if_pos (.inl (of_decide_eq_true c2))] at hq
     simp -dsimp only [Vm.G, zA, zB, zC, zD, zE, zF, q36.1, c1, c2]
     exact hq h hV (.refl _ _)
   · have h0 := zIa (decide (more < -9007199254740992))
     rcases h0 with c3 | c3
     · rw [if_pos (.inr (of_decide_eq_true c3))] at hq
       simp -dsimp only [Vm.G, zA, zB, zC, zD, zE, zF, q36.1, c1, c2, c3]
       exact hq h hV (.refl _ _)
     · have d2 := of_decide_eq_false c2
       have d3 := of_decide_eq_false c3
       rw [if_neg (by omega)] at hq
       simp -dsimp only [Vm.G, zA, zB, zC, zD, zE, zF, q36.1, c1, c2, c3]
       refine call_one (S := tgetSpec) rfl _ GaL.rfl ⟨V, f, year, id, rfl, hV, fun n hm => ?_, fun hm => ?_⟩
       · rw [hm] at hq
         simp only at hq
         have hns := nodeAt_some hm
         rcases hns with ⟨hny, hni, -⟩
         simp only [ndCells]
         simp -dsimp only [Vm.G, zA, zB, zC, zD, zE, zF, q36.1]
         refine call_one (S := tgetSpec) rfl _ GaL.rfl ⟨V, f, year, n.parent, rfl, hV, fun up hu => ?_, fun hu => ?_⟩
         · rw [hu] at hq
           simp only at hq
           have hui := nodeAt_id hu
           simp only [ndCells]
           simp -dsimp only [Vm.G, zA, zB, zC, zD, zE, zF, q36.1]
           refine draw_cont [11, 14] (.take 0 (.take 1 (.take 3 (.take 6 (.take 8 (.alt 2 (.alt 4 (.alt 5 (.take 7 (.alt 9 (.take 10 (.take 11 (.done))) .stop)) (.alt 9 (.alt 5 (.take 7 (.take 10 (.take 11 (.done)))) .stop) (.stop))) (.alt 9 (.alt 4 (.alt 5 (.take 7 (.take 10 (.take 11 (.done)))) .stop) .stop) (.stop))) (.alt 4 (.alt 2 (.alt 5 (.take 7 (.alt 9 (.take 10 (.take 11 (.done))) .stop)) (.alt 9 (.alt 5 (.take 7 (.take 10 (.take 11 (.done)))) .stop) (.stop))) (.alt 9 (.alt 2 (.alt 5 (.take 7 (.take 10 (.take 11 (.done)))) .stop) .stop) (.stop))) (.alt 9 (.alt 2 (.alt 4 (.alt 5 (.take 7 (.take 10 (.take 11 (.done)))) .stop) .stop) (.alt 4 (.alt 2 (.alt 5 (.take 7 (.take 10 (.take 11 (.done)))) .stop) .stop) (.stop))) (.stop))))))))) (fun s h' => isView h' V f ∧ Same h h' [] ∧ s 59 = .v (.bool (decide (w64 (underF f year n.parent + more) > up.limit))) ∧ s 0 = .ptr V.iv 0 ∧ s 3 = .v (.int .i64 more) ∧ s 11 = .eptr [.ptr V.iv 0, .v (.int .i64 year)] ∧ s 12 = .box (ndCells n)) (by kernel_rfl) (by kernel_rfl) (by kernel_rfl) (by decide) ?_ ?_
           · clear hq
             simp only [ndCells]
             repeat' first
               | with_reducible exact True.intro
               | refine call_one (S := shGivenSpec) rfl _ GaL.rfl ⟨V, f, year, n.parent, by rw [hui], hV, hn, fun h1 hV1 hs1 => ?_⟩
               | simp -dsimp only [Vm.G, zA, zB, zC, zD, zE, zF, q36.1]
               | refine tree_alt ?_ ?_
               | refine ⟨hV1, hs1, ?_⟩
               | repeat' first | rfl | exact True.intro | refine And.intro ?_ ?_
           · rintro s h' ⟨hV1, hs1, e59, e0, e3, e11, e12⟩
             simp only [ndCells] at e12
             have h0 := zIa (decide (w64 (underF f year n.parent + more) > up.limit))
             rcases h0 with c4 | c4
             · rw [if_pos (of_decide_eq_true c4)] at hq
               rw [c4] at e59
               simp -dsimp only [Vm.G, zA, zB, zC, zD, zE, zF, q36.1, e59]
               exact hq h' hV1 hs1.wideN
             · rw [if_neg (of_decide_eq_false c4)] at hq
               rw [c4] at e59
               simp -dsimp only [Vm.G, zA, zB, zC, zD, zE, zF, q36.1, e59, e0, e3, e11, e12]
               refine call_one (S := shLimitSpec) rfl _ GaL.rfl ⟨V, f, n, w64 (n.limit + more), nodeAt_ok hm, by simp only [ndCells, hny], hV1, hn, fun h5 hV5 hs5 => ?_⟩
               rw [hny, hni] at hV5 ⊢
               simp -dsimp only [Vm.G, zA, zB, zC, zD, zE, zF, q36.1, e59, e0]
               exact hq h5 hV5 (hs1.wideN.trans hs5)
         · rw [hu] at hq
           simp only at hq
           simp only [ndCells]
           simp -dsimp only [Vm.G, zA, zB, zC, zD, zE, zF, q36.1]
           refine draw_cont [11, 14] (.take 0 (.take 1 (.take 3 (.take 6 (.take 8 (.alt 2 (.alt 4 (.alt 5 (.take 7 (.alt 9 (.take 10 (.take 11 (.done))) .stop)) (.alt 9 (.alt 5 (.take 7 (.take 10 (.take 11 (.done)))) .stop) (.stop))) (.alt 9 (.alt 4 (.alt 5 (.take 7 (.take 10 (.take 11 (.done)))) .stop) .stop) (.stop))) (.alt 4 (.alt 2 (.alt 5 (.take 7 (.alt 9 (.take 10 (.take 11 (.done))) .stop)) (.alt 9 (.alt 5 (.take 7 (.take 10 (.take 11 (.done)))) .stop) (.stop))) (.alt 9 (.alt 2 (.alt 5 (.take 7 (.take 10 (.take 11 (.done)))) .stop) .stop) (.stop))) (.alt 9 (.alt 2 (.alt 4 (.alt 5 (.take 7 (.take 10 (.take 11 (.done)))) .stop) .stop) (.alt 4 (.alt 2 (.alt 5 (.take 7 (.take 10 (.take 11 (.done)))) .stop) .stop) (.stop))) (.stop))))))))) (fun s h' => h' = h ∧ s 59 = .v (.bool false) ∧ s 0 = .ptr V.iv 0 ∧ s 3 = .v (.int .i64 more) ∧ s 11 = .eptr [.ptr V.iv 0, .v (.int .i64 year)] ∧ s 12 = .box (ndCells n)) (by kernel_rfl) (by kernel_rfl) (by kernel_rfl) (by decide) ?_ ?_
           · clear hq
             simp only [ndCells]
             repeat' first
               | with_reducible exact True.intro
               | simp -dsimp only [Vm.G, zA, zB, zC, zD, zE, zF, q36.1]
               | refine tree_alt ?_ ?_
               | repeat' first | rfl | exact True.intro | refine And.intro ?_ ?_
           · rintro s h' ⟨rfl, e59, e0, e3, e11, e12⟩
             simp only [ndCells] at e12
             simp -dsimp only [Vm.G, zA, zB, zC, zD, zE, zF, q36.1, e59, e0, e3, e11, e12]
             refine call_one (S := shLimitSpec) rfl _ GaL.rfl ⟨V, f, n, w64 (n.limit + more), nodeAt_ok hm, by simp only [ndCells, hny], hV, hn, fun h5 hV5 hs5 => ?_⟩
             rw [hny, hni] at hV5 ⊢
             simp -dsimp only [Vm.G, zA, zB, zC, zD, zE, zF, q36.1, e59, e0]
             exact hq h5 hV5 hs5
       · rw [hm] at hq
         simp only at hq
         simp only [ndCells]
         simp -dsimp only [Vm.G, zA, zB, zC, zD, zE, zF, q36.1]
         exact hq h hV (.refl _ _)
noncomputable def shMove (f : Fun) (year frm to part : Int) : Fun × Bool × Int := moveF f year frm to part (underF f year frm) (match nodeAt f year frm with | some a => underF (limitF f a (w64 (a.limit - part)) (underF f year frm)).1 year to | none => 0)
def shMoveSpec : Vm.Spec := fun args h Q => ∃ (V : VId) (f : Fun) (year frm to part : Int), args = [.ptr V.iv 0, .v (.int .i64 year), .v (.int .i64 frm), .v (.int .i64 to), .v (.int .i64 part)] ∧ isView h V f ∧ f.n ≤ 536870900 ∧
 ∀ h', isView h' V (shMove f year frm to part).1 → Same h h' [V.ic] → Q (.tup [.v (.bool (shMove f year frm to part).2.1), .v (.int .i64 (shMove f year frm to part).2.2)]) h'
theorem does_shMove : Does Tryz.prog 38 shMoveSpec := by
 refine dA (good_cons does_yCheck (good_cons does_amtRight (good_cons does_tget (good_cons does_shLimit good_nil)))) Tryz.func38 rfl (by decide +kernel) ?_
 rintro args h Q ⟨V, f, year, frm, to, part, rfl, hV, hn, hq⟩
 refine ⟨by simp [Tryz.f38], ?_⟩
 unfold shMove moveF at hq
 simp -dsimp only [Vm.G, zA, zB, zC, zD, zE, zF, q38.1]
 refine call_one (S := yCheckSpec) rfl _ GaL.rfl ⟨V, f, year, rfl, hV, ?_⟩
 have h0 := zIa (checkY f year != 0)
 rcases h0 with c1 | c1
 · rw [if_pos (by simpa using c1)] at hq
   simp -dsimp only [Vm.G, zA, zB, zC, zD, zE, zF, q38.1, c1]
   exact hq h hV (.refl _ _)
 · rw [if_neg (by simpa using c1)] at hq
   simp -dsimp only [Vm.G, zA, zB, zC, zD, zE, zF, q38.1, c1]
   refine call_one (S := predSpec rightA) rfl _ GaL.rfl ⟨part, rfl, ?_⟩
   have h0 := zIa (rightA part)
   rcases h0 with c2 | c2
   · have h0 := zIa (frm == to)
     rcases h0 with c3 | c3
     · rw [if_pos (.inr (by simpa using c3))] at hq
       simp -dsimp only [Vm.G, zA, zB, zC, zD, zE, zF, q38.1, c2, c3]
       exact hq h hV (.refl _ _)
     · rw [if_neg (by rintro (h | h); rw [c2] at h; cases h; rw [h] at c3; simp at c3)] at hq
       simp -dsimp only [Vm.G, zA, zB, zC, zD, zE, zF, q38.1, c2, c3]
       refine call_one (S := tgetSpec) rfl _ GaL.rfl ⟨V, f, year, frm, rfl, hV, fun a ha => ?_, fun ha => ?_⟩
       · simp only [ndCells]
         simp -dsimp only [Vm.G, zA, zB, zC, zD, zE, zF, q38.1]
         refine call_one (S := tgetSpec) rfl _ GaL.rfl ⟨V, f, year, to, rfl, hV, fun z hz => ?_, fun hz => ?_⟩
         · rw [ha, hz] at hq
           simp only at hq
           have hs1 := nodeAt_some ha
           rcases hs1 with ⟨hay, hai, -⟩
           have hs1 := nodeAt_some hz
           rcases hs1 with ⟨hzy, hzi, -⟩
           simp only [ndCells]
           have h0 := zIa (a.parent != z.parent)
           rcases h0 with c4 | c4
           · rw [if_pos (by simpa using c4)] at hq
             simp -dsimp only [Vm.G, zA, zB, zC, zD, zE, zF, q38.1, c4]
             exact hq h hV (.refl _ _)
           · rw [if_neg (by simpa using c4)] at hq
             simp -dsimp only [Vm.G, zA, zB, zC, zD, zE, zF, q38.1, c4]
             refine call_one (S := shLimitSpec) rfl _ GaL.rfl ⟨V, f, a, w64 (a.limit - part), nodeAt_ok ha, by simp only [ndCells, hay], hV, by omega, fun h5 hV5 hs5 => ?_⟩
             rw [hay, hai] at hV5 ⊢
             have hln := limit_n f a (w64 (a.limit - part)) (underF f year frm)
             generalize limitF f a (w64 (a.limit - part)) (underF f year frm) = q at hq hV5 hln ⊢
             rcases q with ⟨f1, one, qe⟩
             simp only at hq hV5 hln ⊢
             have h0 := zIa (qe != 0)
             rcases h0 with c5 | c5
             · rw [if_pos (by simpa using c5)] at hq
               simp -dsimp only [Vm.G, zA, zB, zC, zD, zE, zF, q38.1, c5]
               exact hq h5 hV5 hs5
             · rw [if_neg (by simpa using c5)] at hq
               simp -dsimp only [Vm.G, zA, zB, zC, zD, zE, zF, q38.1, c5]
               refine call_one (S := shLimitSpec) rfl _ GaL.rfl ⟨V, f1, z, w64 (z.limit + part), nodeAt_ok hz, by simp only [ndCells, hzy], hV5, by omega, fun h6 hV6 hs6 => ?_⟩
               rw [hzy, hzi] at hV6 ⊢
               generalize limitF f1 z (w64 (z.limit + part)) (underF f1 year to) = q2 at hq hV6 ⊢
               rcases q2 with ⟨f2, two, qe2⟩
               simp only at hq hV6 ⊢
               have hq' := hq h6 hV6 (hs5.trans hs6)
               have h0 := zIa (qe2 == 0)
               rcases h0 with c6 | c6
               · rw [c6] at hq'
                 cases one
                 · simp -dsimp only [Vm.G, zA, zB, zC, zD, zE, zF, q38.1, c6]
                   exact hq'
                 · simp -dsimp only [Vm.G, zA, zB, zC, zD, zE, zF, q38.1, c6]
                   exact hq'
               · rw [c6] at hq'
                 simp -dsimp only [Vm.G, zA, zB, zC, zD, zE, zF, q38.1, c6]
                 exact hq'
         · rw [ha, hz] at hq
           simp only at hq
           simp only [ndCells]
           simp -dsimp only [Vm.G, zA, zB, zC, zD, zE, zF, q38.1]
           exact hq h hV (.refl _ _)
       · rw [ha] at hq
         simp only at hq
         simp only [ndCells]
         simp -dsimp only [Vm.G, zA, zB, zC, zD, zE, zF, q38.1]
         refine call_one (S := tgetSpec) rfl _ GaL.rfl ⟨V, f, year, to, rfl, hV, fun z hz => ?_, fun hz => ?_⟩
         · simp only [ndCells]
           simp -dsimp only [Vm.G, zA, zB, zC, zD, zE, zF, q38.1]
           exact hq h hV (.refl _ _)
         · simp only [ndCells]
           simp -dsimp only [Vm.G, zA, zB, zC, zD, zE, zF, q38.1]
           exact hq h hV (.refl _ _)
   · rw [if_pos (.inl c2)] at hq
     simp -dsimp only [Vm.G, zA, zB, zC, zD, zE, zF, q38.1, c2]
     exact hq h hV (.refl _ _)
theorem does_rSmall : Does Tryz.prog 228 (predSpec smallP) := by
 refine dA good_nil Tryz.func228 rfl (by decide +kernel) ?_
 rintro args h Q ⟨n, rfl, hq⟩
 refine ⟨by simp [Tryz.f228], ?_⟩
 unfold smallP at hq
 simp -dsimp only [Vm.G, zA, zB, zC, zD, zE, zF, q228.1]
 have h1 := zIa (decide (-1152921504606846976 ≤ n))
 rcases h1 with c1 | c1
 · rw [c1] at hq
   have c2 : decide (n ≥ -1152921504606846976) = true := c1
   simp -dsimp only [Vm.G, zA, zB, zC, zD, zE, zF, q228.1, c2]
   exact hq
 · rw [c1] at hq
   have c2 : decide (n ≥ -1152921504606846976) = false := c1
   simp -dsimp only [Vm.G, zA, zB, zC, zD, zE, zF, q228.1, c2]
   exact hq
theorem does_rFigure : Does Tryz.prog 179 (predSpec figureP) := by
 refine dA good_nil Tryz.func179 rfl (by decide +kernel) ?_
 rintro args h Q ⟨n, rfl, hq⟩
 refine ⟨by simp [Tryz.f179], ?_⟩
 unfold figureP at hq
 simp -dsimp only [Vm.G, zA, zB, zC, zD, zE, zF, q179.1]
 have h1 := zIa (decide (0 ≤ n))
 rcases h1 with c1 | c1
 · rw [c1] at hq
   have c2 : decide (n ≥ 0) = true := c1
   simp -dsimp only [Vm.G, zA, zB, zC, zD, zE, zF, q179.1, c2]
   exact hq
 · rw [c1] at hq
   have c2 : decide (n ≥ 0) = false := c1
   simp -dsimp only [Vm.G, zA, zB, zC, zD, zE, zF, q179.1, c2]
   exact hq
theorem does_rAmt : Does Tryz.prog 103 (predSpec rightA) := by
 refine dA good_nil Tryz.func103 rfl (by decide +kernel) ?_
 rintro args h Q ⟨n, rfl, hq⟩
 refine ⟨by simp [Tryz.f103], ?_⟩
 unfold rightA at hq
 simp -dsimp only [Vm.G, zA, zB, zC, zD, zE, zF, q103.1]
 have h1 := zIa (decide (1 ≤ n))
 rcases h1 with c1 | c1
 · rw [c1] at hq
   have c2 : decide (n ≥ 1) = true := c1
   simp -dsimp only [Vm.G, zA, zB, zC, zD, zE, zF, q103.1, c2]
   exact hq
 · rw [c1] at hq
   have c2 : decide (n ≥ 1) = false := c1
   simp -dsimp only [Vm.G, zA, zB, zC, zD, zE, zF, q103.1, c2]
   exact hq
theorem small_rng (n : Int) : smallP n = true ↔ -1152921504606846976 ≤ n ∧ n ≤ 1152921504606846976 := by simp [smallP]
theorem does_rAllows : Does Tryz.prog 180 allowsSpec := by
 refine dA (good_cons does_rtUsed (good_cons does_rSmall good_nil)) Tryz.func180 rfl (by decide +kernel) ?_
 rintro args h Q ⟨n, more, rfl, hq⟩
 refine ⟨by simp [Tryz.f180], ?_⟩
 unfold allowsOf at hq
 simp only [ndCells]
 simp -dsimp only [Vm.G, zA, zB, zC, zD, zE, zF, q180.1]
 refine call_one (S := usedSpec) rfl _ GaL.rfl ⟨n, rfl, ?_⟩
 simp -dsimp only [Vm.G, zA, zB, zC, zD, zE, zF, q180.1]
 have h1 := zIa (decide (more > 1152921504606846976))
 rcases h1 with c1 | c1
 · have d1 := of_decide_eq_true c1
   rw [if_pos (.inl d1)] at hq
   simp -dsimp only [Vm.G, zA, zB, zC, zD, zE, zF, q180.1, c1]
   exact hq
 · have d1 := of_decide_eq_false c1
   simp -dsimp only [Vm.G, zA, zB, zC, zD, zE, zF, q180.1, c1]
   refine call_one (S := predSpec smallP) rfl _ GaL.rfl ⟨usedOf n, rfl, ?_⟩
   have h2 := zIa (smallP (usedOf n))
   rcases h2 with c2 | c2
   · simp -dsimp only [Vm.G, zA, zB, zC, zD, zE, zF, q180.1, c2]
     refine call_one (S := predSpec smallP) rfl _ GaL.rfl ⟨n.limit, rfl, ?_⟩
     have h3 := zIa (smallP n.limit)
     rcases h3 with c3 | c3
     · rw [if_neg (by rw [c2, c3]; simpa using d1)] at hq
       have b2 := (small_rng _).1 c2
       have b3 := (small_rng _).1 c3
       simp -dsimp only [Vm.G, zA, zB, zC, zD, zE, zF, q180.1, c3]
       have h4 := zIa (decide (more < 1))
       rcases h4 with c4 | c4
       · rw [if_pos (.inl (of_decide_eq_true c4))] at hq
         simp -dsimp only [Vm.G, zA, zB, zC, zD, zE, zF, q180.1, c4]
         exact hq
       · have d4 := of_decide_eq_false c4
         have e : decide (IntKind.i64.wrap (usedOf n + more) ≤ n.limit) = decide (more ≤ w64 (n.limit - usedOf n)) := by
           have w1 : IntKind.i64.wrap (usedOf n + more) = usedOf n + more := wrap_i64 (by omega) (by omega)
           have w2 : w64 (n.limit - usedOf n) = n.limit - usedOf n := wrap_i64 (by omega) (by omega)
           rw [w1, w2]
           by_cases h : more ≤ n.limit - usedOf n
           · rw [decide_eq_true h, decide_eq_true (by omega)]
           · rw [decide_eq_false h, decide_eq_false (by omega)]
         have h5 := zIa (decide (more ≤ w64 (n.limit - usedOf n)))
         rcases h5 with c5 | c5
         · rw [if_pos (.inr (of_decide_eq_true c5))] at hq
           rw [c5] at e
           simp -dsimp only [Vm.G, zA, zB, zC, zD, zE, zF, q180.1, c4, e]
           exact hq
         · rw [if_neg (fun h => h.elim d4 (of_decide_eq_false c5))] at hq
           rw [c5] at e
           simp -dsimp only [Vm.G, zA, zB, zC, zD, zE, zF, q180.1, c4, e]
           have h6 := zIa n.abs
           rcases h6 with c6 | c6
           · rw [c6] at hq
             simp -dsimp only [Vm.G, zA, zB, zC, zD, zE, zF, q180.1, c6]
             exact hq
           · rw [c6] at hq
             simp -dsimp only [Vm.G, zA, zB, zC, zD, zE, zF, q180.1, c6]
             exact hq
     · rw [if_pos (.inr (by rw [c3]; simp))] at hq
       simp -dsimp only [Vm.G, zA, zB, zC, zD, zE, zF, q180.1, c3]
       exact hq
   · rw [if_pos (.inr (by rw [c2]; simp))] at hq
     simp -dsimp only [Vm.G, zA, zB, zC, zD, zE, zF, q180.1, c2]
     exact hq
theorem max3_le (a b c : Int) : decide ((if (if a < b then b else a) < c then c else (if a < b then b else a)) > 9007199254740992) = !(decide (a ≤ 9007199254740992) && (decide (b ≤ 9007199254740992) && decide (c ≤ 9007199254740992))) := by
 by_cases h1 : a ≤ 9007199254740992 <;> by_cases h2 : b ≤ 9007199254740992 <;> by_cases h3 : c ≤ 9007199254740992 <;> simp only [h1, h2, h3, decide_true, decide_false, Bool.and_true, zIb, Bool.true_and, zSa, Bool.not_true, Bool.not_false, decide_eq_true_eq, decide_eq_false_iff_not] <;> (repeat' split) <;> omega
theorem min3_ge (a b c : Int) : decide ((if c < (if b < a then b else a) then c else (if b < a then b else a)) < -9007199254740992) = !(decide (-9007199254740992 ≤ a) && (decide (-9007199254740992 ≤ b) && decide (-9007199254740992 ≤ c))) := by
 by_cases h1 : -9007199254740992 ≤ a <;> by_cases h2 : -9007199254740992 ≤ b <;> by_cases h3 : -9007199254740992 ≤ c <;> simp only [h1, h2, h3, decide_true, decide_false, Bool.and_true, zIb, Bool.true_and, zSa, Bool.not_true, Bool.not_false, decide_eq_true_eq, decide_eq_false_iff_not] <;> (repeat' split) <;> omega
theorem chgRight_rng (c : Chg) : chgRight c = true ↔ (-9007199254740992 ≤ c.pre ∧ c.pre ≤ 9007199254740992) ∧ (-9007199254740992 ≤ c.enc ∧ c.enc ≤ 9007199254740992) ∧ (-9007199254740992 ≤ c.exp ∧ c.exp ≤ 9007199254740992) := by
 simp [chgRight, withinP, and_assoc]
theorem chargeRun_cons (c : Chg) (n : Nd) (r : List Nd) (f : Fun) (w : Bool) : chargeRun c (n :: r) f w = if (atOf c n).2.2 ≠ 0 then (f, false, (atOf c n).2.2) else chargeRun c r (upd f (ndK (atOf c n).1) (some (ndV (atOf c n).1))) (w || (atOf c n).2.1) := rfl
theorem at_nine {c : Chg} {n : Nd} (h : figs n = false ∨ figs (addC c n) = false) : (atOf c n).2.2 = 9 := by
 unfold atOf
 by_cases h1 : figs n = false
 · rw [if_pos h1]
 · rw [if_neg h1, if_pos (h.resolve_left h1)]
def rChargeSpec : Vm.Spec := fun args h Q => ∃ (R : RId) (f : Fun) (year id : Int) (c : Chg), args = [.ptr R.iv 0, .v (.int .i64 year), .v (.int .i64 id), .v (.int .i64 c.pre), .v (.int .i64 c.enc), .v (.int .i64 c.exp)] ∧ isRef h R f ∧ f.n ≤ 536870900 ∧
 ∀ h', isRef h' R (chargeOf f year id c).1 → Same h h' (rFoot R) → Q (.tup [.v (.bool (chargeOf f year id c).2.1), .v (.int .i64 (chargeOf f year id c).2.2)]) h'
theorem does_rCharge : Does Tryz.prog 109 rChargeSpec := by
 refine dA (good_cons does_rtPath (good_cons does_rFigure (good_cons does_rAllows (good_cons does_rtPut good_nil)))) Tryz.func109 rfl (by decide +kernel) ?_
 rintro args h Q ⟨R, f, year, id, c, rfl, hR, hfn, hq⟩
 refine ⟨by simp [Tryz.f109], ?_⟩
 unfold chargeOf at hq
 simp -dsimp only [Vm.G, zA, zB, zC, zD, zE, zF, q109.1]
 refine call_one (S := rtPathSpec) rfl _ GaL.rfl ⟨R, f, year, id, rfl, hR, by omega, ?_⟩
 have hok := pathOf_ok f year 8 id
 have hlen := pathOf_length f year 8 id
 generalize pathOf f year 8 id = path at hok hlen hq ⊢
 simp -dsimp only [Vm.G, zA, zB, zC, zD, zE, zF, q109.1]
 have h1 := zIa ((path.length : Int) == 0)
 rcases h1 with c1 | c1
 · have d1 : path.length = 0 := by have : (path.length : Int) = 0 := by simpa using c1
                                   omega
   rw [if_pos d1] at hq
   simp -dsimp only [Vm.G, zA, zB, zC, zD, zE, zF, q109.1, c1]
   exact hq h hR (.refl _ _)
 · have d1 : ¬ path.length = 0 := by intro e; rw [e] at c1; simp at c1
   rw [if_neg d1] at hq
   have hmax := max3_le c.pre c.enc c.exp
   have hmin := min3_ge c.pre c.enc c.exp
   have hcr := chgRight_rng c
   simp -dsimp only [Vm.G, zA, zB, zC, zD, zE, zF, q109.1, c1]
   have h2 := zIa (decide (c.pre ≤ 9007199254740992) && (decide (c.enc ≤ 9007199254740992) && decide (c.exp ≤ 9007199254740992)))
   rcases h2 with c2 | c2
   · rw [c2] at hmax
     have h3 := zIa (decide (-9007199254740992 ≤ c.pre) && (decide (-9007199254740992 ≤ c.enc) && decide (-9007199254740992 ≤ c.exp)))
     rcases h3 with c3 | c3
     · rw [c3] at hmin
       simp only [Bool.and_eq_true, decide_eq_true_eq] at c2 c3
       rw [if_neg (by rw [hcr.2 ⟨⟨c3.1, c2.1⟩, ⟨c3.2.1, c2.2.1⟩, ⟨c3.2.2, c2.2.2⟩⟩]; decide)] at hq
       clear hcr
       simp -dsimp only [Vm.G, zA, zB, zC, zD, zE, zF, q109.1, hmax, hmin]
       refine awp_loop (fun m s h' => ∃ (i : Nat) (g : Fun) (w : Bool), i + m = path.length ∧ isRef h' R g ∧ g.n ≤ f.n + i ∧ Same h h' (rFoot R) ∧ chargeRun c (path.drop i) g w = chargeRun c path f false ∧ s = mk [(0, .ptr R.iv 0), (3, .v (.int .i64 c.pre)), (4, .v (.int .i64 c.enc)), (5, .v (.int .i64 c.exp)), (14, .own true 29 12 (path.map ndAv)), (15, .v (.bool w)), (16, .v (.int .i64 (i : Nat)))])
         path.length _ (le_mk _ ?_) ⟨0, f, false, by omega, hR, by omega, .refl _ _, rfl, rfl⟩ ?_
       · simp only [Vm.D]
         try simp -dsimp only [Vm.G, zA, zB, zC, zD, zE, zF, q109.1]
         repeat' first | exact .refl _ | exact .nil _ _ _ (by decide) | refine ⟨?_, ?_⟩
       · clear hR hmax hmin
         rintro m s h' ⟨i, g, w, hi, hR, hgn, hsm, hp, rfl⟩
         simp -dsimp only [Vm.G, zA, zB, zC, zD, zE, zF, q109.1]
         refine cond_intro (fun hcc => ?_) (fun hcc => ?_)
         · have hlt : i < path.length := by have := of_decide_eq_true hcc; omega
           have hw := hwN i (by omega)
           have hn := hok path[i] (zQa hlt)
           have hgi : (path.map ndAv)[i]? = some (ndAv path[i]) := by rw [List.getElem?_map, zTa hlt]; rfl
           rw [zLb hlt] at hp
           generalize path[i] = n at hn hgi hp
           rw [chargeRun_cons] at hp
           simp -dsimp only [Vm.G, zA, zB, zC, zD, zE, zF, q109.1]
           refine idxO_intro (xs := path.map ndAv) (by omega) (by simp; omega) ?_
           simp -dsimp only [Vm.G, zA, zB, zC, zD, zE, zF, q109.1, zWa]
           refine eltA_intro (xs := path.map ndAv) hgi ?_
           simp only [ndAv, ndCells]
           simp -dsimp only [Vm.G, zA, zB, zC, zD, zE, zF, q109.1, AV.cells, zNb]
           refine call_one (S := predSpec figureP) rfl _ GaL.rfl ⟨n.pre, rfl, ?_⟩
           have k1 := zIa (figureP n.pre)
           rcases k1 with k1 | k1
           · simp -dsimp only [Vm.G, zA, zB, zC, zD, zE, zF, q109.1, k1]
             refine call_one (S := predSpec figureP) rfl _ GaL.rfl ⟨n.enc, rfl, ?_⟩
             have k2 := zIa (figureP n.enc)
             rcases k2 with k2 | k2
             · simp -dsimp only [Vm.G, zA, zB, zC, zD, zE, zF, q109.1, k2]
               refine call_one (S := predSpec figureP) rfl _ GaL.rfl ⟨n.exp, rfl, ?_⟩
               have k3 := zIa (figureP n.exp)
               rcases k3 with k3 | k3
               · simp -dsimp only [Vm.G, zA, zB, zC, zD, zE, zF, q109.1, k3]
                 refine call_one (S := predSpec figureP) rfl _ GaL.rfl ⟨(addC c n).pre, rfl, ?_⟩
                 have k4 := zIa (figureP (addC c n).pre)
                 rcases k4 with k4 | k4
                 · simp -dsimp only [Vm.G, zA, zB, zC, zD, zE, zF, q109.1, k4]
                   refine call_one (S := predSpec figureP) rfl _ GaL.rfl ⟨(addC c n).enc, rfl, ?_⟩
                   have k5 := zIa (figureP (addC c n).enc)
                   rcases k5 with k5 | k5
                   · simp -dsimp only [Vm.G, zA, zB, zC, zD, zE, zF, q109.1, k5]
                     refine call_one (S := predSpec figureP) rfl _ GaL.rfl ⟨(addC c n).exp, rfl, ?_⟩
                     have k6 := zIa (figureP (addC c n).exp)
                     rcases k6 with k6 | k6
                     · simp -dsimp only [Vm.G, zA, zB, zC, zD, zE, zF, q109.1, k6]
                       have f1 : figs n = true := by simp only [figs, k1, k2, k3, Bool.and_self]
                       have f2 : figs (addC c n) = true := by simp only [figs, k4, k5, k6, Bool.and_self]
                       have hat : atOf c n = if (allowsOf n (chgSum c)).1 = false then (.zero, false, 11) else (addC c n, (allowsOf n (chgSum c)).2, 0) := by
                         unfold atOf
                         rw [if_neg (by rw [f1]; decide), if_neg (by rw [f2]; decide)]
                       rw [hat] at hp
                       clear hat
                       refine call_one (S := allowsSpec) rfl _ GaL.rfl ⟨n, chgSum c, rfl, ?_⟩
                       generalize allowsOf n (chgSum c) = q at hp ⊢
                       rcases q with ⟨qa, qb⟩
                       have h8 := zIa qa
                       rcases h8 with c8 | c8
                       · subst c8
                         have hp : chargeRun c (path.drop (i + 1)) (upd g (ndK (addC c n)) (some (ndV (addC c n)))) (w || qb) = chargeRun c path f false := hp
                         have han := addC_ok c n hn
                         have hnc : ndCells (addC c n) = [.v (.int .i64 n.year), .v (.int .i64 n.id), .v (.int .i64 n.parent), .v (.int .i64 n.fund), .v (.int .i64 n.obj), .v (.bool n.abs), .v (.int .i64 n.limit), .v (.int .i64 (IntKind.i64.wrap (n.pre + c.pre))), .v (.int .i64 (IntKind.i64.wrap (n.enc + c.enc))), .v (.int .i64 (IntKind.i64.wrap (n.exp + c.exp))), .v (.int .i64 n.lapsed), .v (.int .i64 n.carried)] := rfl
                         generalize addC c n = x at han hnc hp
                         simp -dsimp only [Vm.G, zA, zB, zC, zD, zE, zF, q109.1]
                         cases w
                         · simp -dsimp only [Vm.G, zA, zB, zC, zD, zE, zF, q109.1]
                           refine call_one (S := rtPutSpec) rfl _ GaL.rfl ⟨R, g, x, by rw [hnc], han, hR, by omega, fun h2 g1 g2 => ?_⟩
                           simp -dsimp only [Vm.G, zA, zB, zC, zD, zE, zF, q109.1]
                           refine kept_intro ⟨path.length - (i + 1), by omega, _, le_mk [(0, .ptr R.iv 0), (3, .v (.int .i64 c.pre)), (4, .v (.int .i64 c.enc)), (5, .v (.int .i64 c.exp)), (14, .own true 29 12 (path.map ndAv)), (15, .v (.bool qb)), (16, .v (.int .i64 (i + 1 : Nat)))] ?_, i + 1, _, qb, by omega, g1, by show g.n + 1 ≤ _; omega, hsm.trans g2, hp, rfl⟩
                           simp only [Vm.D, hw]
                           try simp -dsimp only [Vm.G, zA, zB, zC, zD, zE, zF, q109.1, hw]
                           repeat' first | exact .refl _ | exact .nil _ _ _ (by decide) | refine ⟨?_, ?_⟩
                         · simp -dsimp only [Vm.G, zA, zB, zC, zD, zE, zF, q109.1]
                           refine call_one (S := rtPutSpec) rfl _ GaL.rfl ⟨R, g, x, by rw [hnc], han, hR, by omega, fun h2 g1 g2 => ?_⟩
                           simp -dsimp only [Vm.G, zA, zB, zC, zD, zE, zF, q109.1]
                           refine kept_intro ⟨path.length - (i + 1), by omega, _, le_mk [(0, .ptr R.iv 0), (3, .v (.int .i64 c.pre)), (4, .v (.int .i64 c.enc)), (5, .v (.int .i64 c.exp)), (14, .own true 29 12 (path.map ndAv)), (15, .v (.bool true)), (16, .v (.int .i64 (i + 1 : Nat)))] ?_, i + 1, _, true, by omega, g1, by show g.n + 1 ≤ _; omega, hsm.trans g2, hp, rfl⟩
                           simp only [Vm.D, hw]
                           try simp -dsimp only [Vm.G, zA, zB, zC, zD, zE, zF, q109.1, hw]
                           repeat' first | exact .refl _ | exact .nil _ _ _ (by decide) | refine ⟨?_, ?_⟩
                       · subst c8
                         have hp : (g, false, (11 : Int)) = chargeRun c path f false := hp
                         rw [← hp] at hq
                         simp -dsimp only [Vm.G, zA, zB, zC, zD, zE, zF, q109.1]
                         exact hq h' hR hsm
                     · have h9 := at_nine (c := c) (n := n) (.inr (by simp only [figs, k6, zIb, zSa]))
                       have hp9 : (g, false, (9 : Int)) = chargeRun c path f false := by rw [← hp, h9]; rfl
                       rw [← hp9] at hq
                       simp -dsimp only [Vm.G, zA, zB, zC, zD, zE, zF, q109.1, k6]
                       exact hq h' hR hsm
                   · have h9 := at_nine (c := c) (n := n) (.inr (by simp only [figs, k5, zIb, zSa]))
                     have hp9 : (g, false, (9 : Int)) = chargeRun c path f false := by rw [← hp, h9]; rfl
                     rw [← hp9] at hq
                     simp -dsimp only [Vm.G, zA, zB, zC, zD, zE, zF, q109.1, k5]
                     exact hq h' hR hsm
                 · have h9 := at_nine (c := c) (n := n) (.inr (by simp only [figs, k4, zIb, zSa]))
                   have hp9 : (g, false, (9 : Int)) = chargeRun c path f false := by rw [← hp, h9]; rfl
                   rw [← hp9] at hq
                   simp -dsimp only [Vm.G, zA, zB, zC, zD, zE, zF, q109.1, k4]
                   exact hq h' hR hsm
               · have h9 := at_nine (c := c) (n := n) (.inl (by simp only [figs, k3, zIb, zSa]))
                 have hp9 : (g, false, (9 : Int)) = chargeRun c path f false := by rw [← hp, h9]; rfl
                 rw [← hp9] at hq
                 simp -dsimp only [Vm.G, zA, zB, zC, zD, zE, zF, q109.1, k3]
                 exact hq h' hR hsm
             · have h9 := at_nine (c := c) (n := n) (.inl (by simp only [figs, k2, zIb, zSa]))
               have hp9 : (g, false, (9 : Int)) = chargeRun c path f false := by rw [← hp, h9]; rfl
               rw [← hp9] at hq
               simp -dsimp only [Vm.G, zA, zB, zC, zD, zE, zF, q109.1, k2]
               exact hq h' hR hsm
           · have h9 := at_nine (c := c) (n := n) (.inl (by simp only [figs, k1, zIb, zSa]))
             have hp9 : (g, false, (9 : Int)) = chargeRun c path f false := by rw [← hp, h9]; rfl
             rw [← hp9] at hq
             simp -dsimp only [Vm.G, zA, zB, zC, zD, zE, zF, q109.1, k1]
             exact hq h' hR hsm
         · have hge : ¬ i < path.length := by have := of_decide_eq_false hcc; omega
           rw [List.drop_of_length_le (by omega)] at hp
           have hp : (g, w, (0 : Int)) = chargeRun c path f false := hp
           rw [← hp] at hq
           simp -dsimp only [Vm.G, zA, zB, zC, zD, zE, zF, q109.1]
           exact hq h' hR hsm
     · rw [c3] at hmin
       rw [if_pos (by
         cases hb : chgRight c
         · rfl
         · have := hcr.1 hb
           simp only [decide_eq_true this.1.1, decide_eq_true this.2.1.1, decide_eq_true this.2.2.1] at c3
           cases c3)] at hq
       simp -dsimp only [Vm.G, zA, zB, zC, zD, zE, zF, q109.1, hmax, hmin]
       exact hq h hR (.refl _ _)
   · rw [c2] at hmax
     rw [if_pos (by
       cases hb : chgRight c
       · rfl
       · have := hcr.1 hb
         simp only [decide_eq_true this.1.2, decide_eq_true this.2.1.2, decide_eq_true this.2.2.2] at c2
         cases c2)] at hq
     simp -dsimp only [Vm.G, zA, zB, zC, zD, zE, zF, q109.1, hmax]
     exact hq h hR (.refl _ _)
theorem does_rPreCheck : Does Tryz.prog 187 preCheckSpec := by
 refine dA (good_cons does_rAmt good_nil) Tryz.func187 rfl (by decide +kernel) ?_
 rintro args h Q ⟨l, hl, rfl, hq⟩
 refine ⟨by simp [Tryz.f187], ?_⟩
 unfold preCheck at hq
 simp -dsimp only [Vm.G, zA, zB, zC, zD, zE, zF, q187.1]
 have h1 := zIa (decide ((l.length : Int) < 1))
 rcases h1 with c1 | c1
 · have d1 := of_decide_eq_true c1
   rw [if_pos (.inl (by omega))] at hq
   simp -dsimp only [Vm.G, zA, zB, zC, zD, zE, zF, q187.1, c1]
   exact hq
 · have d1 := of_decide_eq_false c1
   simp -dsimp only [Vm.G, zA, zB, zC, zD, zE, zF, q187.1, c1]
   have h2 := zIa (decide ((l.length : Int) > 6))
   rcases h2 with c2 | c2
   · have d2 := of_decide_eq_true c2
     rw [if_pos (.inr (.inl (by omega)))] at hq
     simp -dsimp only [Vm.G, zA, zB, zC, zD, zE, zF, q187.1, c2]
     exact hq
   · have d2 := of_decide_eq_false c2
     simp -dsimp only [Vm.G, zA, zB, zC, zD, zE, zF, q187.1, c2]
     refine awp_loop (fun m s h' => ∃ i : Nat, i + m = l.length ∧ h' = h ∧ (∀ j (hj : j < l.length), j < i → wrongL l[j] = false) ∧ s = mk [(0, .sl 4 (l.map lnAv)), (3, .v (.int .i64 (i : Nat)))])
       l.length _ (le_mk _ ?_) ⟨0, by omega, rfl, fun _ _ hj => by omega, rfl⟩ ?_
     · simp only [Vm.D]
       try simp -dsimp only [Vm.G, zA, zB, zC, zD, zE, zF, q187.1]
       repeat' first | exact .refl _ | exact .nil _ _ _ (by decide) | refine ⟨?_, ?_⟩
     · rintro m s h' ⟨i, hi, rfl, hb, rfl⟩
       simp -dsimp only [Vm.G, zA, zB, zC, zD, zE, zF, q187.1]
       refine cond_intro (fun hcc => ?_) (fun hcc => ?_)
       · have hlt : i < l.length := by have := of_decide_eq_true hcc; omega
         have hw := hwN i (by omega)
         have hxe : ∃ x, l[i] = x := ⟨_, rfl⟩
         rcases hxe with ⟨x, hx⟩
         simp -dsimp only [Vm.G, zA, zB, zC, zD, zE, zF, q187.1]
         refine idx_map lnAv l i hlt ?_
         simp only [hx, lnAv, lnCells]
         simp -dsimp only [Vm.G, zA, zB, zC, zD, zE, zF, q187.1, AV.cells]
         refine call_one (S := predSpec rightA) rfl _ GaL.rfl ⟨x.amt, rfl, ?_⟩
         have h3 := zIa (rightA x.amt)
         rcases h3 with c3 | c3
         · have hwx : wrongL x = false := by unfold wrongL; rw [c3]; rfl
           simp -dsimp only [Vm.G, zA, zB, zC, zD, zE, zF, q187.1, c3]
           refine kept_intro ⟨l.length - (i + 1), by omega, _, le_mk [(0, .sl 4 (l.map lnAv)), (3, .v (.int .i64 (i + 1 : Nat)))] ?_, i + 1, by omega, rfl, fun j hj hj2 => ?_, rfl⟩
           · simp only [Vm.D, hw]
             try simp -dsimp only [Vm.G, zA, zB, zC, zD, zE, zF, q187.1, hw]
             repeat' first | exact .refl _ | exact .nil _ _ _ (by decide) | refine ⟨?_, ?_⟩
           · by_cases hji : j = i
             · subst hji; rw [hx]; exact hwx
             · exact hb j hj (by omega)
         · have hwx : wrongL x = true := by unfold wrongL; rw [c3]; rfl
           rw [if_pos (.inr (.inr (List.any_eq_true.2 ⟨x, hx ▸ zQa hlt, hwx⟩)))] at hq
           simp -dsimp only [Vm.G, zA, zB, zC, zD, zE, zF, q187.1, c3]
           exact hq
       · have hge : ¬ i < l.length := by have := of_decide_eq_false hcc; omega
         have hany : l.any wrongL = false := by
           cases ha : l.any wrongL
           · rfl
           · obtain ⟨x, hxm, hwx⟩ := List.any_eq_true.1 ha
             obtain ⟨j, hj, rfl⟩ := zVa hxm
             rw [hb j hj (by omega)] at hwx; cases hwx
         rw [if_neg (fun h => h.elim (fun h => by omega) fun h => h.elim (fun h => by omega) fun h => by rw [hany] at h; cases h)] at hq
         simp -dsimp only [Vm.G, zA, zB, zC, zD, zE, zF, q187.1]
         exact hq
def firstOf (f : Fun) (year : Int) (l : List Ln) : Int := if checkY f year ≠ 0 then checkY f year else preCheck l
def rFirstSpec : Vm.Spec := fun args h Q => ∃ (R : RId) (f : Fun) (year : Int) (l : List Ln), l.length ≤ 9223372036854775807 ∧ args = [.ptr R.iv 0, .v (.int .i64 year), .sl 4 (l.map lnAv)] ∧ isRef h R f ∧ f.n ≤ 536870912 ∧ Q (.v (.int .i64 (firstOf f year l))) h
theorem does_rFirst : Does Tryz.prog 115 rFirstSpec := by
 refine dA (good_cons does_rCheck (good_cons does_rPreCheck good_nil)) Tryz.func115 rfl (by decide +kernel) ?_
 rintro args h Q ⟨R, f, year, l, hl, rfl, hR, hfn, hq⟩
 refine ⟨by simp [Tryz.f115], ?_⟩
 unfold firstOf at hq
 simp -dsimp only [Vm.G, zA, zB, zC, zD, zE, zF, q115.1]
 refine call_one (S := rCheckSpec) rfl _ GaL.rfl ⟨R, f, year, rfl, hR, hfn, ?_⟩
 generalize checkY f year = e at hq ⊢
 simp -dsimp only [Vm.G, zA, zB, zC, zD, zE, zF, q115.1]
 have h1 := zIa (e != 0)
 rcases h1 with c1 | c1
 · rw [if_pos (by simpa using c1)] at hq
   simp -dsimp only [Vm.G, zA, zB, zC, zD, zE, zF, q115.1, c1]
   exact hq
 · rw [if_neg (by simpa using c1)] at hq
   simp -dsimp only [Vm.G, zA, zB, zC, zD, zE, zF, q115.1, c1]
   refine call_one (S := preCheckSpec) rfl _ GaL.rfl ⟨l, hl, rfl, ?_⟩
   simp -dsimp only [Vm.G, zA, zB, zC, zD, zE, zF, q115.1]
   exact hq
theorem does_rLines : Does Tryz.prog 116 linesSpec := by
 refine dA good_nil Tryz.func116 rfl (by decide +kernel) ?_
 rintro args h Q ⟨l, hl, rfl, hq⟩
 refine ⟨by simp [Tryz.f116], ?_⟩
 simp -dsimp only [Vm.G, zA, zB, zC, zD, zE, zF, q116.1]
 refine awp_loop (fun m s h' => ∃ i : Nat, i + m = l.length ∧ h' = h ∧ s = mk [(0, .sl 4 (l.map lnAv)), (3, .own true 48 4 ((ownL (l.take i)).map dlAv)), (4, .v (.int .i64 (i : Nat)))])
   l.length _ (le_mk _ ?_) ⟨0, by omega, rfl, rfl⟩ ?_
 · simp only [Vm.D]
   try simp -dsimp only [Vm.G, zA, zB, zC, zD, zE, zF, q116.1]
   repeat' first | exact .refl _ | exact .nil _ _ _ (by decide) | refine ⟨?_, ?_⟩
 · rintro m s h' ⟨i, hi, rfl, rfl⟩
   simp -dsimp only [Vm.G, zA, zB, zC, zD, zE, zF, q116.1]
   refine cond_intro (fun hcc => ?_) (fun hcc => ?_)
   · have hlt : i < l.length := by have := of_decide_eq_true hcc; omega
     have hw := hwN i (by omega)
     have est : ownL (l.take (i + 1)) = ownL (l.take i) ++ [⟨l[i].node, l[i].amt, 0, 0⟩] := by
       unfold ownL
       rw [List.take_succ_eq_append_getElem hlt, zKa]; rfl
     have hol : (ownL (l.take i)).length ≤ i := by unfold ownL; rw [zJa, List.length_take]; omega
     have hxe : ∃ x, l[i] = x := ⟨_, rfl⟩
     rcases hxe with ⟨x, hx⟩
     rw [hx] at est
     simp -dsimp only [Vm.G, zA, zB, zC, zD, zE, zF, q116.1]
     refine draw_cont [] (.take 0 (.take 1 (.take 2 (.take 3 (.take 4 (.take 5 (.take 6 (.take 7 (.take 8 (.take 9 (.take 10 (.alt 11 (.alt 12 (.alt 13 (.alt 14 (.done) .stop) .stop) .stop) .stop)))))))))))) (fun s h2 => h2 = h' ∧ s 0 = .sl 4 (l.map lnAv) ∧ s 3 = .own true 48 4 ((ownL (l.take (i + 1))).map dlAv) ∧ s 4 = .v (.int .i64 (i : Nat))) (by kernel_rfl) (by kernel_rfl) (by kernel_rfl) (by decide) ?_ ?_
     · simp -dsimp only [Vm.G, zA, zB, zC, zD, zE, zF, q116.1]
       refine idx_map lnAv l i hlt ?_
       simp only [hx, lnAv, lnCells]
       simp -dsimp only [Vm.G, zA, zB, zC, zD, zE, zF, q116.1, AV.cells]
       refine idx_map lnAv l i hlt ?_
       simp only [hx, lnAv, lnCells]
       simp -dsimp only [Vm.G, zA, zB, zC, zD, zE, zF, q116.1, AV.cells]
       refine bs_intro zr48 (by decide) (by decide) rfl rfl (by simp [solid, AV.cells]) ?_
       simp -dsimp only [Vm.G, zA, zB, zC, zD, zE, zF, q116.1]
       refine app_sl Tryz.underlying43 (by simp [AV.cells]) (by simp only [zJa, zMa, zOa]; omega) ?_
       simp -dsimp only [Vm.G, zA, zB, zC, zD, zE, zF, q116.1]
       simp only [est, zKa, zLa, zNa, dlAv, dlCells]
       repeat' first | rfl | exact True.intro | refine And.intro ?_ ?_
     · rintro s h2 ⟨rfl, e0, e3, e4⟩
       simp -dsimp only [Vm.G, zA, zB, zC, zD, zE, zF, q116.1, e0, e3, e4]
       refine kept_intro ⟨l.length - (i + 1), by omega, _, le_mk [(0, .sl 4 (l.map lnAv)), (3, .own true 48 4 ((ownL (l.take (i + 1))).map dlAv)), (4, .v (.int .i64 (i + 1 : Nat)))] ?_, i + 1, by omega, rfl, rfl⟩
       simp only [Vm.D, hw, e0, e3, e4]
       try simp -dsimp only [Vm.G, zA, zB, zC, zD, zE, zF, q116.1, hw, e0, e3, e4]
       repeat' first | exact .refl _ | exact .nil _ _ _ (by decide) | refine ⟨?_, ?_⟩
   · have hge : ¬ i < l.length := by have := of_decide_eq_false hcc; omega
     simp -dsimp only [Vm.G, zA, zB, zC, zD, zE, zF, q116.1]
     rw [List.take_of_length_le (by omega)]
     exact hq
def mkR (p e x : Int) (d : Dl) : Chg := ⟨w64 (p * d.orig), w64 (e * d.orig), w64 (x * d.orig)⟩
def rChargeLSpec : Vm.Spec := fun args h Q => ∃ (R : RId) (f : Fun) (year : Int) (l : List Dl) (p e x : Int), l.length ≤ 1048576 ∧ args = [.ptr R.iv 0, .v (.int .i64 year), .sl 4 (l.map dlAv), .v (.int .i64 p), .v (.int .i64 e), .v (.int .i64 x)] ∧ isRef h R f ∧ f.n ≤ 268435456 ∧
 ∀ h', isRef h' R (chargeG (mkR p e x) year l f false).1 → Same h h' (rFoot R) → Q (.tup [.v (.bool (chargeG (mkR p e x) year l f false).2.1), .v (.int .i64 (chargeG (mkR p e x) year l f false).2.2)]) h'
attribute [local irreducible] chargeOf chargeG docsPut
theorem does_rChargeL : Does Tryz.prog 117 rChargeLSpec := by
 refine dA (good_cons does_rCharge good_nil) Tryz.func117 rfl (by decide +kernel) ?_
 rintro args h Q ⟨R, f, year, l, p, e, x, hl, rfl, hR, hfn, hq⟩
 refine ⟨by simp [Tryz.f117], ?_⟩
 simp -dsimp only [Vm.G, zA, zB, zC, zD, zE, zF, q117.1]
 refine awp_loop (fun m s h' => ∃ (i : Nat) (g : Fun) (w : Bool), i + m = l.length ∧ isRef h' R g ∧ g.n ≤ f.n + 8 * i ∧ Same h h' (rFoot R) ∧ chargeG (mkR p e x) year (l.drop i) g w = chargeG (mkR p e x) year l f false ∧ s = mk [(0, .ptr R.iv 0), (1, .v (.int .i64 year)), (2, .sl 4 (l.map dlAv)), (3, .v (.int .i64 p)), (4, .v (.int .i64 e)), (5, .v (.int .i64 x)), (14, .v (.bool w)), (15, .v (.int .i64 (i : Nat)))])
   l.length _ (le_mk _ ?_) ⟨0, f, false, by omega, hR, by omega, .refl _ _, rfl, rfl⟩ ?_
 · simp only [Vm.D]
   try simp -dsimp only [Vm.G, zA, zB, zC, zD, zE, zF, q117.1]
   repeat' first | exact .refl _ | exact .nil _ _ _ (by decide) | refine ⟨?_, ?_⟩
 · clear hR
   rintro m s h' ⟨i, g, w, hi, hR, hgn, hsm, hp, rfl⟩
   simp -dsimp only [Vm.G, zA, zB, zC, zD, zE, zF, q117.1]
   refine cond_intro (fun hcc => ?_) (fun hcc => ?_)
   · have hlt : i < l.length := by have := of_decide_eq_true hcc; omega
     have hw := hwN i (by omega)
     rw [zLb hlt] at hp
     have hxe : ∃ y, l[i] = y := ⟨_, rfl⟩
     rcases hxe with ⟨y, hy⟩
     rw [hy] at hp
     have hcn := chargeOf_n g year y.node (mkR p e x y)
     simp -dsimp only [Vm.G, zA, zB, zC, zD, zE, zF, q117.1]
     refine idx_map dlAv l i hlt ?_
     simp only [hy, dlAv, dlCells]
     simp -dsimp only [Vm.G, zA, zB, zC, zD, zE, zF, q117.1, AV.cells]
     refine idx_map dlAv l i hlt ?_
     simp only [hy, dlAv, dlCells]
     simp -dsimp only [Vm.G, zA, zB, zC, zD, zE, zF, q117.1, AV.cells]
     refine call_one (S := rChargeSpec) rfl _ GaL.rfl ⟨R, g, year, y.node, mkR p e x y, rfl, hR, by omega, fun h2 g1 g2 => ?_⟩
     rw [chargeG_cons] at hp
     generalize chargeOf g year y.node (mkR p e x y) = q at hp g1 hcn ⊢
     rcases q with ⟨qf, qw, qe⟩
     simp only at hp g1 hcn ⊢
     simp -dsimp only [Vm.G, zA, zB, zC, zD, zE, zF, q117.1]
     have h1 := zIa (qe != 0)
     rcases h1 with c1 | c1
     · have d1 : qe ≠ 0 := by simpa using c1
       rw [if_pos d1] at hp
       rw [← hp] at hq
       simp -dsimp only [Vm.G, zA, zB, zC, zD, zE, zF, q117.1, c1]
       exact hq h2 g1 (hsm.trans g2)
     · have d1 : ¬ qe ≠ 0 := by simpa using c1
       rw [if_neg d1] at hp
       simp -dsimp only [Vm.G, zA, zB, zC, zD, zE, zF, q117.1, c1]
       cases w
       · simp -dsimp only [Vm.G, zA, zB, zC, zD, zE, zF, q117.1]
         refine kept_intro ⟨l.length - (i + 1), by omega, _, le_mk [(0, .ptr R.iv 0), (1, .v (.int .i64 year)), (2, .sl 4 (l.map dlAv)), (3, .v (.int .i64 p)), (4, .v (.int .i64 e)), (5, .v (.int .i64 x)), (14, .v (.bool qw)), (15, .v (.int .i64 (i + 1 : Nat)))] ?_, i + 1, qf, qw, by omega, g1, by omega, hsm.trans g2, by simpa using hp, rfl⟩
         simp only [Vm.D, hw]
         try simp -dsimp only [Vm.G, zA, zB, zC, zD, zE, zF, q117.1, hw]
         repeat' first | exact .refl _ | exact .nil _ _ _ (by decide) | refine ⟨?_, ?_⟩
       · simp -dsimp only [Vm.G, zA, zB, zC, zD, zE, zF, q117.1]
         refine kept_intro ⟨l.length - (i + 1), by omega, _, le_mk [(0, .ptr R.iv 0), (1, .v (.int .i64 year)), (2, .sl 4 (l.map dlAv)), (3, .v (.int .i64 p)), (4, .v (.int .i64 e)), (5, .v (.int .i64 x)), (14, .v (.bool true)), (15, .v (.int .i64 (i + 1 : Nat)))] ?_, i + 1, qf, true, by omega, g1, by omega, hsm.trans g2, by simpa using hp, rfl⟩
         simp only [Vm.D, hw]
         try simp -dsimp only [Vm.G, zA, zB, zC, zD, zE, zF, q117.1, hw]
         repeat' first | exact .refl _ | exact .nil _ _ _ (by decide) | refine ⟨?_, ?_⟩
   · have hge : ¬ i < l.length := by have := of_decide_eq_false hcc; omega
     rw [List.drop_of_length_le (by omega)] at hp
     have hp : (g, w, (0 : Int)) = chargeG (mkR p e x) year l f false := by rw [← hp]; simp only [chargeG]
     rw [← hp] at hq
     simp -dsimp only [Vm.G, zA, zB, zC, zD, zE, zF, q117.1]
     exact hq h' hR hsm
theorem w64_i64 {n : Int} (h : I64 n) : w64 n = n := wrap_i64 h.1 h.2
theorem mkR_pre {d : Dl} (h : d.ok) : mkR 1 0 0 d = ⟨d.orig, 0, 0⟩ := by
 unfold mkR
 rw [Int.one_mul, Int.zero_mul, w64_i64 h.2.1]
 rfl
def rPreNewSpec : Vm.Spec := fun args h Q => ∃ (R : RId) (f : Fun) (year : Int) (l : List Ln), I64 year ∧ l.length ≤ 1073741824 ∧ (∀ x ∈ l, x.ok) ∧ args = [.ptr R.iv 0, .v (.int .i64 year), .sl 4 (l.map lnAv)] ∧ isRef h R f ∧ f.n ≤ 134217728 ∧
 ∀ h', isRef h' R (preNew f year l).1 → Same h h' (rFoot R) → Q (.tup [.v (.int .i64 (preNew f year l).2.1), .v (.bool (preNew f year l).2.2.1), .v (.int .i64 (preNew f year l).2.2.2)]) h'
theorem docsPut_no {f : Fun} {d : Dc} {l : List Dl} (h : (docsPut f d l).2.2 ≠ 0) : (docsPut f d l).2.1 = 0 := by
 revert h
 unfold docsPut
 split
 · intro _; rfl
 · split
   · intro _; rfl
   · intro h; exact absurd rfl h
theorem does_rPreNew : Does Tryz.prog 43 rPreNewSpec := by
 refine dA (good_cons does_rFirst (good_cons does_rLines (good_cons does_rChargeL (good_cons does_rDocsPut good_nil)))) Tryz.func43 rfl (by decide +kernel) ?_
 rintro args h Q ⟨R, f, year, l, hy, hl, hok, rfl, hR, hfn, hq⟩
 refine ⟨by simp [Tryz.f43], ?_⟩
 unfold preNew at hq
 simp -dsimp only [Vm.G, zA, zB, zC, zD, zE, zF, q43.1]
 refine call_one (S := rFirstSpec) rfl _ GaL.rfl ⟨R, f, year, l, by omega, rfl, hR, by omega, ?_⟩
 have hfo : firstOf f year l = if checkY f year ≠ 0 then checkY f year else preCheck l := rfl
 generalize firstOf f year l = e at hfo ⊢
 simp -dsimp only [Vm.G, zA, zB, zC, zD, zE, zF, q43.1]
 by_cases d1 : checkY f year ≠ 0
 · simp only [if_pos d1] at hq hfo
   have c1 : (e != 0) = true := by rw [hfo]; simpa using d1
   rw [← hfo] at hq
   simp -dsimp only [Vm.G, zA, zB, zC, zD, zE, zF, q43.1, c1]
   exact hq h hR (.refl _ _)
 · simp only [if_neg d1] at hq hfo
   by_cases d2 : preCheck l ≠ 0
   · simp only [if_pos d2] at hq
     have c1 : (e != 0) = true := by rw [hfo]; simpa using d2
     rw [← hfo] at hq
     simp -dsimp only [Vm.G, zA, zB, zC, zD, zE, zF, q43.1, c1]
     exact hq h hR (.refl _ _)
   · simp only [if_neg d2] at hq
     have c1 : (e != 0) = false := by rw [hfo]; simpa using d2
     have hl6 := preCheck_len d2
     have hol := ownL_length l
     have hook := ownL_ok hok
     have hG : chargeL year (ownL l) f false = chargeG (mkR 1 0 0) year (ownL l) f false := by
       rw [chargeL_G]
       exact chargeG_congr year _ _ _ fun x hx => (mkR_pre (hook x hx)).symm
     rw [hG] at hq
     have hcn := chargeG_n (mkR 1 0 0) year (ownL l) f false
     clear hG
     simp -dsimp only [Vm.G, zA, zB, zC, zD, zE, zF, q43.1, c1]
     refine call_one (S := linesSpec) rfl _ GaL.rfl ⟨l, hl, rfl, ?_⟩
     simp -dsimp only [Vm.G, zA, zB, zC, zD, zE, zF, q43.1]
     refine call_one (S := rChargeLSpec) rfl _ GaL.rfl ⟨R, f, year, ownL l, 1, 0, 0, by omega, rfl, hR, by omega, fun h1 g1 g2 => ?_⟩
     generalize chargeG (mkR 1 0 0) year (ownL l) f false = q at hq g1 hcn ⊢
     rcases q with ⟨qf, qw, qe⟩
     simp only at hq g1 hcn ⊢
     simp -dsimp only [Vm.G, zA, zB, zC, zD, zE, zF, q43.1]
     have h3 := zIa (qe != 0)
     rcases h3 with c3 | c3
     · have d3 : qe ≠ 0 := by simpa using c3
       simp only [if_pos d3] at hq
       simp -dsimp only [Vm.G, zA, zB, zC, zD, zE, zF, q43.1, c3]
       exact hq h1 g1 g2
     · have d3 : ¬ qe ≠ 0 := by simpa using c3
       simp only [if_neg d3] at hq
       have z0 : I64 0 := by unfold I64; omega
       have z1 : I64 1 := by unfold I64; omega
       simp -dsimp only [Vm.G, zA, zB, zC, zD, zE, zF, q43.1, c3]
       refine call_one (S := rDocsPutSpec) rfl _ GaL.rfl ⟨R, qf, ⟨0, 1, year, 0, 0⟩, ownL l, ⟨z0, z1, hy, z0, z0⟩, hook, rfl, g1, by omega, fun h2 g3 g4 => ?_⟩
       have hno := docsPut_no (f := qf) (d := ⟨0, 1, year, 0, 0⟩) (l := ownL l)
       generalize docsPut qf ⟨0, 1, year, 0, 0⟩ (ownL l) = r at hq g3 hno ⊢
       rcases r with ⟨rf, ri, re⟩
       simp only at hq g3 hno ⊢
       have hq' := hq h2 g3 (g2.trans g4)
       simp -dsimp only [Vm.G, zA, zB, zC, zD, zE, zF, q43.1]
       have h4 := zIa (re != 0)
       rcases h4 with c4 | c4
       · have d4 : re ≠ 0 := by simpa using c4
         have e4 : (re == 0) = false := by simpa using d4
         rw [hno d4, e4, zIb] at hq'
         simp -dsimp only [Vm.G, zA, zB, zC, zD, zE, zF, q43.1, c4]
         exact hq'
       · have d4 : re = 0 := by simpa using c4
         subst d4
         rw [beq_self_eq_true, Bool.and_true] at hq'
         simp -dsimp only [Vm.G, zA, zB, zC, zD, zE, zF, q43.1, c4]
         exact hq'
end Go.Proofs.Lx
namespace Go.Proofs.Lx
open Go.Vm
attribute [local irreducible] awpArr awpBin awpMake awpAppend awpCvX awpStrOf awpBinX awpSlice awpBS awpStore awpAlloc awpCopy awpIndex awpDraw awpIdxX awpFa awpField awpLookup awpUpdate awpDelete awpClear awpRange awpNext awpEntry awpBuild awpClearS awpIdxL awpTree appB awpIdxO eltA treeA
theorem does_rObj16 : Does Tryz.prog 79 (predSpec objP) := by
 refine dA good_nil Tryz.func79 rfl (by decide +kernel) ?_
 rintro args h Q ⟨n, rfl, hq⟩
 refine ⟨by simp [Tryz.f79], ?_⟩
 unfold objP at hq
 have h0 := zIa (decide (1000 ≤ n))
 rcases h0 with c | c
 · have c2 : decide (n ≥ 1000) = true := c
   rw [c, Bool.true_and] at hq
   simp -dsimp only [Vm.G, zA, zB, zC, zD, zE, zF, q79.1, c2]
   exact hq
 · have c2 : decide (n ≥ 1000) = false := c
   rw [c, zSa] at hq
   simp -dsimp only [Vm.G, zA, zB, zC, zD, zE, zF, q79.1, c2]
   exact hq
theorem does_rClass : Does Tryz.prog 94 classSpec := by
 refine dA (good_cons does_rObj16 good_nil) Tryz.func94 rfl (by decide +kernel) ?_
 rintro args h Q ⟨n, rfl, hq⟩
 refine ⟨by simp [Tryz.f94], ?_⟩
 unfold classOf at hq
 simp -dsimp only [Vm.G, zA, zB, zC, zD, zE, zF, q94.1]
 refine call_one (S := predSpec objP) rfl _ GaL.rfl ⟨n, rfl, ?_⟩
 have h0 := zIa (objP n)
 rcases h0 with c | c
 · have hr : 1000 ≤ n ∧ n ≤ 5999 := by unfold objP at c; simpa using c
   have hw : IntKind.i64.wrap (n.tdiv 1000) = n.tdiv 1000 := by
     have : n.tdiv 1000 = n / 1000 := Int.tdiv_eq_ediv_of_nonneg (by omega)
     rw [this]
     exact wrap_i64 (by omega) (by omega)
   rw [if_pos c] at hq
   simp -dsimp only [Vm.G, zA, zB, zC, zD, zE, zF, q94.1, c]
   refine quo_intro (by decide) ?_
   simp -dsimp only [Vm.G, zA, zB, zC, zD, zE, zF, q94.1, hw]
   exact hq
 · rw [c] at hq
   simp only [Bool.false_eq_true, if_false] at hq
   simp -dsimp only [Vm.G, zA, zB, zC, zD, zE, zF, q94.1, c]
   exact hq
def rShLimitSpec : Vm.Spec := fun args h Q => ∃ (R : RId) (f : Fun) (n : Nd) (to : Int), n.ok ∧ args = [.ptr R.iv 0, .agg (ndCells n), .v (.int .i64 to)] ∧ isRef h R f ∧ f.n ≤ 536870912 ∧
 ∀ h', isRef h' R (limitF f n to (underF f n.year n.id)).1 → Same h h' (rFoot R) → Q (.tup [.v (.bool (limitF f n to (underF f n.year n.id)).2.1), .v (.int .i64 (limitF f n to (underF f n.year n.id)).2.2)]) h'
theorem does_rShLimit : Does Tryz.prog 101 rShLimitSpec := by
 refine dA (good_cons does_rtUsed (good_cons does_rtKids (good_cons does_rtGiven (good_cons does_rtPut good_nil)))) Tryz.func101 rfl (by decide +kernel) ?_
 rintro args h Q ⟨R, f, n, to, hok, rfl, hR, hn, hq⟩
 refine ⟨by simp [Tryz.f101], ?_⟩
 unfold limitF at hq
 simp only [ndCells]
 by_cases h1 : to < 0
 · have c1 : decide (to < 0) = true := decide_eq_true h1
   rw [if_pos (.inl h1)] at hq
   simp -dsimp only [Vm.G, zA, zB, zC, zD, zE, zF, q101.1, c1]
   exact hq h hR (.refl _ _)
 · have c1 : decide (to < 0) = false := decide_eq_false h1
   by_cases h2 : to > 1152921504606846976
   · have c2 : decide (to > 1152921504606846976) = true := decide_eq_true h2
     rw [if_pos (.inr h2)] at hq
     simp -dsimp only [Vm.G, zA, zB, zC, zD, zE, zF, q101.1, c1, c2]
     exact hq h hR (.refl _ _)
   · have c2 : decide (to > 1152921504606846976) = false := decide_eq_false h2
     rw [if_neg (by omega)] at hq
     simp -dsimp only [Vm.G, zA, zB, zC, zD, zE, zF, q101.1, c1, c2]
     refine call_one (S := usedSpec) rfl _ GaL.rfl ⟨n, rfl, ?_⟩
     simp -dsimp only [Vm.G, zA, zB, zC, zD, zE, zF, q101.1]
     refine call_one (S := rtKidsSpec) rfl _ GaL.rfl ⟨R, f, n.year, n.id, rfl, hR, hn, fun l hsc hln => ?_⟩
     have hu := underF_eq hsc n.id
     have hkl : (kidsN n.year n.id l).length ≤ l.length := Nat.le_trans (zQb ..) (zOb ..)
     simp -dsimp only [Vm.G, zA, zB, zC, zD, zE, zF, q101.1]
     refine call_one (S := givenSpec) rfl _ GaL.rfl ⟨kidsN n.year n.id l, by omega, rfl, ?_⟩
     rw [← hu]
     clear hu hkl hsc hln
     generalize underF f n.year n.id = g at hq ⊢
     by_cases h4 : g > to
     · have c4 : decide (g > to) = true := decide_eq_true h4
       rw [if_pos (.inl h4)] at hq
       simp -dsimp only [Vm.G, zA, zB, zC, zD, zE, zF, q101.1, c4]
       exact hq h hR (.refl _ _)
     · have c4 : decide (g > to) = false := decide_eq_false h4
       have hbe : ∃ b, decide (usedOf n > to) = b := ⟨_, rfl⟩
       rcases hbe with ⟨b, hb⟩
       have hae : ∃ a, n.abs = a := ⟨_, rfl⟩
       rcases hae with ⟨a, ha⟩
       have hput := limit_ok (to := to) hok (by omega)
       rw [hb] at hq
       cases a
       · rw [if_neg (by rw [ha]; rintro (h | ⟨h, -⟩); exact h4 h; cases h)] at hq
         simp -dsimp only [Vm.G, zA, zB, zC, zD, zE, zF, q101.1, c4, ha, hb]
         refine call_one (S := rtPutSpec) rfl _ GaL.rfl ⟨R, f, { n with limit := to }, by simp only [ndCells, ha], hput, hR, hn, fun h5 hR5 hs5 => ?_⟩
         simp -dsimp only [Vm.G, zA, zB, zC, zD, zE, zF, q101.1]
         exact hq h5 hR5 hs5
       · cases b
         · have h6 : ¬ usedOf n > to := of_decide_eq_false hb
           rw [if_neg (by rintro (h | ⟨-, h⟩); exact h4 h; exact h6 h)] at hq
           simp -dsimp only [Vm.G, zA, zB, zC, zD, zE, zF, q101.1, c4, ha, hb]
           refine call_one (S := rtPutSpec) rfl _ GaL.rfl ⟨R, f, { n with limit := to }, by simp only [ndCells, ha], hput, hR, hn, fun h5 hR5 hs5 => ?_⟩
           simp -dsimp only [Vm.G, zA, zB, zC, zD, zE, zF, q101.1]
           exact hq h5 hR5 hs5
         · have h6 : usedOf n > to := of_decide_eq_true hb
           rw [if_pos (.inr ⟨ha, h6⟩)] at hq
           simp -dsimp only [Vm.G, zA, zB, zC, zD, zE, zF, q101.1, c4, ha, hb]
           exact hq h hR (.refl _ _)
def rShAmendSpec : Vm.Spec := fun args h Q => ∃ (R : RId) (f : Fun) (year id more : Int), I64 more ∧ args = [.ptr R.iv 0, .v (.int .i64 year), .v (.int .i64 id), .v (.int .i64 more)] ∧ isRef h R f ∧ f.n ≤ 536870912 ∧
 ∀ h', isRef h' R (shAmend f year id more).1 → Same h h' (rFoot R) → Q (.tup [.v (.bool (shAmend f year id more).2.1), .v (.int .i64 (shAmend f year id more).2.2)]) h'
theorem does_rShAmend : Does Tryz.prog 37 rShAmendSpec := by
 refine dA (good_cons does_rCheck (good_cons does_rtGet (good_cons does_rtKids (good_cons does_rtGiven (good_cons does_rShLimit good_nil))))) Tryz.func37 rfl (by decide +kernel) ?_
 rintro args h Q ⟨R, f, year, id, more, hmo, rfl, hR, hn, hq⟩
 refine ⟨by simp [Tryz.f37], ?_⟩
 unfold shAmend amendF at hq
 simp -dsimp only [Vm.G, zA, zB, zC, zD, zE, zF, q37.1]
 refine call_one (S := rCheckSpec) rfl _ GaL.rfl ⟨R, f, year, rfl, hR, hn, ?_⟩
 have h0 := zIa (checkY f year != 0)
 rcases h0 with c1 | c1
 · rw [if_pos (by simpa using c1)] at hq
   simp -dsimp only [Vm.G, zA, zB, zC, zD, zE, zF, q37.1, c1]
   exact hq h hR (.refl _ _)
 · rw [if_neg (by simpa using c1)] at hq
   have h0 := zIa (decide (more < -9007199254740992))
   rcases h0 with c3 | c3
   · rw [if_pos (.inr (of_decide_eq_true c3))] at hq
     simp -dsimp only [Vm.G, zA, zB, zC, zD, zE, zF, q37.1, c1, c3]
     exact hq h hR (.refl _ _)
   · have h0 := zIa (decide (more > 9007199254740992))
     rcases h0 with c2 | c2
     · rw [if_pos (.inl (of_decide_eq_true c2))] at hq
       simp -dsimp only [Vm.G, zA, zB, zC, zD, zE, zF, q37.1, c1, c2, c3]
       exact hq h hR (.refl _ _)
     · have d2 := of_decide_eq_false c2
       have d3 := of_decide_eq_false c3
       rw [if_neg (by omega)] at hq
       simp -dsimp only [Vm.G, zA, zB, zC, zD, zE, zF, q37.1, c1, c2, c3]
       refine call_one (S := rtGetSpec) rfl _ GaL.rfl ⟨R, f, year, id, rfl, hR, hn, fun n hm => ?_, fun hm => ?_⟩
       · rw [hm] at hq
         simp only at hq
         have hns := nodeAt_some hm
         rcases hns with ⟨hny, hni, -⟩
         simp only [ndCells]
         simp -dsimp only [Vm.G, zA, zB, zC, zD, zE, zF, q37.1]
         refine call_one (S := rtGetSpec) rfl _ GaL.rfl ⟨R, f, year, n.parent, rfl, hR, hn, fun up hu => ?_, fun hu => ?_⟩
         · rw [hu] at hq
           simp only at hq
           simp only [ndCells]
           simp -dsimp only [Vm.G, zA, zB, zC, zD, zE, zF, q37.1]
           refine draw_cont [11, 13] (.take 0 (.take 1 (.take 2 (.take 3 (.take 4 (.take 8 (.take 10 (.alt 5 (.alt 6 (.alt 7 (.take 9 (.alt 11 (.take 12 (.take 13 (.done))) .stop)) (.alt 11 (.alt 7 (.take 9 (.take 12 (.take 13 (.done)))) .stop) (.stop))) (.alt 11 (.alt 6 (.alt 7 (.take 9 (.take 12 (.take 13 (.done)))) .stop) .stop) (.stop))) (.alt 11 (.alt 5 (.alt 6 (.alt 7 (.take 9 (.take 12 (.take 13 (.done)))) .stop) .stop) .stop) (.stop)))))))))) (fun s h' => h' = h ∧ s 57 = .v (.bool (decide (w64 (underF f year n.parent + more) > up.limit))) ∧ s 0 = .ptr R.iv 0 ∧ s 3 = .v (.int .i64 more) ∧ s 11 = .eptr (ndCells n)) (by kernel_rfl) (by kernel_rfl) (by kernel_rfl) (by decide) ?_ ?_
           · clear hq
             simp only [ndCells]
             repeat' first
               | with_reducible exact True.intro
               | refine call_one (S := rtKidsSpec) rfl _ GaL.rfl ⟨R, f, year, n.parent, rfl, hR, hn, fun l hsc hln => ?_⟩
               | (have hu := underF_eq hsc n.parent
                  have hkl : (kidsN year n.parent l).length ≤ l.length := Nat.le_trans (zQb ..) (zOb ..)
                  refine call_one (S := givenSpec) rfl _ GaL.rfl ⟨kidsN year n.parent l, by omega, rfl, ?_⟩
                  rw [← hu])
               | simp -dsimp only [Vm.G, zA, zB, zC, zD, zE, zF, q37.1]
               | refine tree_alt ?_ ?_
               | repeat' first | rfl | exact True.intro | refine And.intro ?_ ?_
           · rintro s h' ⟨rfl, e57, e0, e3, e11⟩
             simp only [ndCells] at e11
             have h0 := zIa (decide (w64 (underF f year n.parent + more) > up.limit))
             rcases h0 with c4 | c4
             · rw [if_pos (of_decide_eq_true c4)] at hq
               rw [c4] at e57
               simp -dsimp only [Vm.G, zA, zB, zC, zD, zE, zF, q37.1, e57]
               exact hq h' hR (.refl _ _)
             · rw [if_neg (of_decide_eq_false c4)] at hq
               rw [c4] at e57
               simp -dsimp only [Vm.G, zA, zB, zC, zD, zE, zF, q37.1, e57, e0, e3, e11]
               refine call_one (S := rShLimitSpec) rfl _ GaL.rfl ⟨R, f, n, w64 (n.limit + more), nodeAt_ok hm, rfl, hR, hn, fun h5 hR5 hs5 => ?_⟩
               rw [hny, hni] at hR5 ⊢
               simp -dsimp only [Vm.G, zA, zB, zC, zD, zE, zF, q37.1, e57, e0]
               exact hq h5 hR5 hs5
         · rw [hu] at hq
           simp only at hq
           simp only [ndCells]
           simp -dsimp only [Vm.G, zA, zB, zC, zD, zE, zF, q37.1]
           refine draw_cont [11, 13] (.take 0 (.take 1 (.take 2 (.take 3 (.take 4 (.take 8 (.take 10 (.alt 5 (.alt 6 (.alt 7 (.take 9 (.alt 11 (.take 12 (.take 13 (.done))) .stop)) (.alt 11 (.alt 7 (.take 9 (.take 12 (.take 13 (.done)))) .stop) (.stop))) (.alt 11 (.alt 6 (.alt 7 (.take 9 (.take 12 (.take 13 (.done)))) .stop) .stop) (.stop))) (.alt 11 (.alt 5 (.alt 6 (.alt 7 (.take 9 (.take 12 (.take 13 (.done)))) .stop) .stop) .stop) (.stop)))))))))) (fun s h' => h' = h ∧ s 57 = .v (.bool false) ∧ s 0 = .ptr R.iv 0 ∧ s 3 = .v (.int .i64 more) ∧ s 11 = .eptr (ndCells n)) (by kernel_rfl) (by kernel_rfl) (by kernel_rfl) (by decide) ?_ ?_
           · clear hq
             simp only [ndCells]
             repeat' first
               | with_reducible exact True.intro
               | simp -dsimp only [Vm.G, zA, zB, zC, zD, zE, zF, q37.1]
               | refine tree_alt ?_ ?_
               | repeat' first | rfl | exact True.intro | refine And.intro ?_ ?_
           · rintro s h' ⟨rfl, e57, e0, e3, e11⟩
             simp only [ndCells] at e11
             simp -dsimp only [Vm.G, zA, zB, zC, zD, zE, zF, q37.1, e57, e0, e3, e11]
             refine call_one (S := rShLimitSpec) rfl _ GaL.rfl ⟨R, f, n, w64 (n.limit + more), nodeAt_ok hm, rfl, hR, hn, fun h5 hR5 hs5 => ?_⟩
             rw [hny, hni] at hR5 ⊢
             simp -dsimp only [Vm.G, zA, zB, zC, zD, zE, zF, q37.1, e57, e0]
             exact hq h5 hR5 hs5
       · rw [hm] at hq
         simp only at hq
         simp only [ndCells]
         simp -dsimp only [Vm.G, zA, zB, zC, zD, zE, zF, q37.1]
         exact hq h hR (.refl _ _)
def rShMoveSpec : Vm.Spec := fun args h Q => ∃ (R : RId) (f : Fun) (year frm to part : Int), args = [.ptr R.iv 0, .v (.int .i64 year), .v (.int .i64 frm), .v (.int .i64 to), .v (.int .i64 part)] ∧ isRef h R f ∧ f.n ≤ 536870900 ∧
 ∀ h', isRef h' R (shMove f year frm to part).1 → Same h h' (rFoot R) → Q (.tup [.v (.bool (shMove f year frm to part).2.1), .v (.int .i64 (shMove f year frm to part).2.2)]) h'
theorem does_rShMove : Does Tryz.prog 39 rShMoveSpec := by
 refine dA (good_cons does_rCheck (good_cons does_rAmt (good_cons does_rtGet (good_cons does_rShLimit good_nil)))) Tryz.func39 rfl (by decide +kernel) ?_
 rintro args h Q ⟨R, f, year, frm, to, part, rfl, hR, hn, hq⟩
 refine ⟨by simp [Tryz.f39], ?_⟩
 unfold shMove moveF at hq
 simp -dsimp only [Vm.G, zA, zB, zC, zD, zE, zF, q39.1]
 refine call_one (S := rCheckSpec) rfl _ GaL.rfl ⟨R, f, year, rfl, hR, by omega, ?_⟩
 have h0 := zIa (checkY f year != 0)
 rcases h0 with c1 | c1
 · rw [if_pos (by simpa using c1)] at hq
   simp -dsimp only [Vm.G, zA, zB, zC, zD, zE, zF, q39.1, c1]
   exact hq h hR (.refl _ _)
 · rw [if_neg (by simpa using c1)] at hq
   simp -dsimp only [Vm.G, zA, zB, zC, zD, zE, zF, q39.1, c1]
   refine call_one (S := predSpec rightA) rfl _ GaL.rfl ⟨part, rfl, ?_⟩
   have h0 := zIa (rightA part)
   rcases h0 with c2 | c2
   · have h0 := zIa (frm == to)
     rcases h0 with c3 | c3
     · rw [if_pos (.inr (by simpa using c3))] at hq
       simp -dsimp only [Vm.G, zA, zB, zC, zD, zE, zF, q39.1, c2, c3]
       exact hq h hR (.refl _ _)
     · rw [if_neg (by rintro (h | h); rw [c2] at h; cases h; rw [h] at c3; simp at c3)] at hq
       simp -dsimp only [Vm.G, zA, zB, zC, zD, zE, zF, q39.1, c2, c3]
       refine call_one (S := rtGetSpec) rfl _ GaL.rfl ⟨R, f, year, frm, rfl, hR, by omega, fun a ha => ?_, fun ha => ?_⟩
       · simp only [ndCells]
         simp -dsimp only [Vm.G, zA, zB, zC, zD, zE, zF, q39.1]
         refine call_one (S := rtGetSpec) rfl _ GaL.rfl ⟨R, f, year, to, rfl, hR, by omega, fun z hz => ?_, fun hz => ?_⟩
         · rw [ha, hz] at hq
           simp only at hq
           have hs1 := nodeAt_some ha
           rcases hs1 with ⟨hay, hai, -⟩
           have hs1 := nodeAt_some hz
           rcases hs1 with ⟨hzy, hzi, -⟩
           simp only [ndCells]
           have h0 := zIa (a.parent != z.parent)
           rcases h0 with c4 | c4
           · rw [if_pos (by simpa using c4)] at hq
             simp -dsimp only [Vm.G, zA, zB, zC, zD, zE, zF, q39.1, c4]
             exact hq h hR (.refl _ _)
           · rw [if_neg (by simpa using c4)] at hq
             simp -dsimp only [Vm.G, zA, zB, zC, zD, zE, zF, q39.1, c4]
             refine call_one (S := rShLimitSpec) rfl _ GaL.rfl ⟨R, f, a, w64 (a.limit - part), nodeAt_ok ha, rfl, hR, by omega, fun h5 hR5 hs5 => ?_⟩
             rw [hay, hai] at hR5 ⊢
             have hln := limit_n f a (w64 (a.limit - part)) (underF f year frm)
             generalize limitF f a (w64 (a.limit - part)) (underF f year frm) = q at hq hR5 hln ⊢
             rcases q with ⟨f1, one, qe⟩
             simp only at hq hR5 hln ⊢
             have h0 := zIa (qe != 0)
             rcases h0 with c5 | c5
             · rw [if_pos (by simpa using c5)] at hq
               simp -dsimp only [Vm.G, zA, zB, zC, zD, zE, zF, q39.1, c5]
               exact hq h5 hR5 hs5
             · rw [if_neg (by simpa using c5)] at hq
               simp -dsimp only [Vm.G, zA, zB, zC, zD, zE, zF, q39.1, c5]
               refine call_one (S := rShLimitSpec) rfl _ GaL.rfl ⟨R, f1, z, w64 (z.limit + part), nodeAt_ok hz, rfl, hR5, by omega, fun h6 hR6 hs6 => ?_⟩
               rw [hzy, hzi] at hR6 ⊢
               generalize limitF f1 z (w64 (z.limit + part)) (underF f1 year to) = q2 at hq hR6 ⊢
               rcases q2 with ⟨f2, two, qe2⟩
               simp only at hq hR6 ⊢
               have hq' := hq h6 hR6 (hs5.trans hs6)
               have h0 := zIa (qe2 != 0)
               rcases h0 with c6 | c6
               · have d6 : (qe2 == 0) = false := by simpa using c6
                 rw [d6] at hq'
                 simp -dsimp only [Vm.G, zA, zB, zC, zD, zE, zF, q39.1, c6]
                 exact hq'
               · have d6 : qe2 = 0 := by simpa using c6
                 subst d6
                 cases one
                 · simp -dsimp only [Vm.G, zA, zB, zC, zD, zE, zF, q39.1, c6]
                   exact hq'
                 · simp -dsimp only [Vm.G, zA, zB, zC, zD, zE, zF, q39.1, c6]
                   exact hq'
         · rw [ha, hz] at hq
           simp only at hq
           simp only [ndCells]
           simp -dsimp only [Vm.G, zA, zB, zC, zD, zE, zF, q39.1]
           exact hq h hR (.refl _ _)
       · rw [ha] at hq
         simp only at hq
         simp only [ndCells]
         simp -dsimp only [Vm.G, zA, zB, zC, zD, zE, zF, q39.1]
         refine call_one (S := rtGetSpec) rfl _ GaL.rfl ⟨R, f, year, to, rfl, hR, by omega, fun z hz => ?_, fun hz => ?_⟩
         · simp only [ndCells]
           simp -dsimp only [Vm.G, zA, zB, zC, zD, zE, zF, q39.1]
           exact hq h hR (.refl _ _)
         · simp only [ndCells]
           simp -dsimp only [Vm.G, zA, zB, zC, zD, zE, zF, q39.1]
           exact hq h hR (.refl _ _)
   · rw [if_pos (.inl c2)] at hq
     simp -dsimp only [Vm.G, zA, zB, zC, zD, zE, zF, q39.1, c2]
     exact hq h hR (.refl _ _)
def lessSpec : Vm.Spec := fun args h Q => ∃ kind part : Int, args = [.v (.int .i64 kind), .v (.int .i64 part)] ∧ Q (.tup [.v (.int .i64 (lessC kind part).pre), .v (.int .i64 (lessC kind part).enc)]) h
theorem does_less : Does Tryz.prog 104 lessSpec := by
 refine dA good_nil Tryz.func104 rfl (by decide +kernel) ?_
 rintro args h Q ⟨kind, part, rfl, hq⟩
 refine ⟨by simp [Tryz.f104], ?_⟩
 unfold lessC at hq
 have h0 := zIa (kind == 1)
 rcases h0 with c | c
 · rw [if_pos (by simpa using c)] at hq
   simp -dsimp only [Vm.G, zA, zB, zC, zD, zE, zF, q104.1, c]
   exact hq
 · rw [if_neg (by simpa using c)] at hq
   have h0 := zIa (kind == 2)
   rcases h0 with c2 | c2
   · rw [if_pos (by simpa using c2)] at hq
     simp -dsimp only [Vm.G, zA, zB, zC, zD, zE, zF, q104.1, c, c2]
     exact hq
   · rw [if_neg (by simpa using c2)] at hq
     simp -dsimp only [Vm.G, zA, zB, zC, zD, zE, zF, q104.1, c, c2]
     exact hq
theorem less_exp (kind part : Int) : (lessC kind part).exp = 0 := by
 unfold lessC
 split
 · rfl
 · split <;> rfl
def cancelSpec : Vm.Spec := fun args h Q => ∃ (V : VId) (f : Fun) (doc line part : Int), I64 doc ∧ I64 line ∧ args = [.ptr V.iv 0, .v (.int .i64 doc), .v (.int .i64 line), .v (.int .i64 part)] ∧ isView h V f ∧ f.n ≤ 536870900 ∧
 ∀ h', isView h' V (cancelF f doc line part).1 → Same h h' [V.ic] → Q (.v (.int .i64 (cancelF f doc line part).2)) h'
theorem does_cancel : Does Tryz.prog 40 cancelSpec := by
 refine dA (good_cons does_amtRight (good_cons does_docsGet (good_cons does_yCheck (good_cons does_docsOpen (good_cons does_less (good_cons does_charge (good_cons does_docsSet good_nil))))))) Tryz.func40 rfl (by decide +kernel) ?_
 rintro args h Q ⟨V, f, doc, line, part, hdo, hli, rfl, hV, hn, hq⟩
 refine ⟨by simp [Tryz.f40], ?_⟩
 unfold cancelF at hq
 simp -dsimp only [Vm.G, zA, zB, zC, zD, zE, zF, q40.1]
 refine call_one (S := predSpec rightA) rfl _ GaL.rfl ⟨part, rfl, ?_⟩
 have h0 := zIa (rightA part)
 rcases h0 with c1 | c1
 · rw [if_neg (by rw [c1]; decide)] at hq
   simp -dsimp only [Vm.G, zA, zB, zC, zD, zE, zF, q40.1, c1]
   refine call_one (S := docsGetSpec) rfl _ GaL.rfl ⟨V, f, doc, rfl, hV, fun d l hd hl6 hdl => ?_, fun hd => ?_⟩
   · rw [hd] at hq
     simp only at hq
     simp only [dcCells]
     have h0 := zIa (decide (line < 0))
     rcases h0 with c2 | c2
     · rw [if_pos (.inl (of_decide_eq_true c2))] at hq
       simp -dsimp only [Vm.G, zA, zB, zC, zD, zE, zF, q40.1, c2]
       exact hq h hV (.refl _ _)
     · have d2 := of_decide_eq_false c2
       have h0 := zIa (decide (line ≥ (l.length : Int)))
       rcases h0 with c3 | c3
       · rw [if_pos (.inr (of_decide_eq_true c3))] at hq
         simp -dsimp only [Vm.G, zA, zB, zC, zD, zE, zF, q40.1, c2, c3, zJa]
         exact hq h hV (.refl _ _)
       · have d3 := of_decide_eq_false c3
         rw [if_neg (by omega)] at hq
         simp -dsimp only [Vm.G, zA, zB, zC, zD, zE, zF, q40.1, c2, c3, zJa]
         refine call_one (S := yCheckSpec) rfl _ GaL.rfl ⟨V, f, d.year, rfl, hV, ?_⟩
         have h0 := zIa (checkY f d.year != 0)
         rcases h0 with c4 | c4
         · rw [if_pos (by simpa using c4)] at hq
           simp -dsimp only [Vm.G, zA, zB, zC, zD, zE, zF, q40.1, c4]
           exact hq h hV (.refl _ _)
         · rw [if_neg (by simpa using c4)] at hq
           have hie : ∃ i : Nat, line = i := ⟨line.toNat, by omega⟩
           rcases hie with ⟨i, hi⟩
           have hlt : i < l.length := by omega
           have hxe : ∃ x, l[i] = x := ⟨_, rfl⟩
           rcases hxe with ⟨x, hx⟩
           have hxo : x.ok := hx ▸ docAt_ok hd _ (zQa hlt)
           have hgd : l.getD line.toNat .zero = x := by rw [hi, zWa, List.getD_eq_getElem?_getD, zTa hlt, hx]; rfl
           have hgl : (l.map dlAv)[i]? = some (dlAv x) := by simp [hlt, hx]
           rw [hgd] at hq
           subst hi
           simp -dsimp only [Vm.G, zA, zB, zC, zD, zE, zF, q40.1, c4]
           refine idxO_intro (by omega) (by simp; omega) ?_
           simp -dsimp only [Vm.G, zA, zB, zC, zD, zE, zF, q40.1, zWa]
           refine eltA_intro hgl ?_
           simp only [dlAv, dlCells]
           simp -dsimp only [Vm.G, zA, zB, zC, zD, zE, zF, q40.1, AV.cells, zNb]
           have h0 := zIa (d.kind == 3)
           rcases h0 with c5 | c5
           · rw [if_pos (.inl (by simpa using c5))] at hq
             simp -dsimp only [Vm.G, zA, zB, zC, zD, zE, zF, q40.1, c5]
             exact hq h hV (.refl _ _)
           · simp -dsimp only [Vm.G, zA, zB, zC, zD, zE, zF, q40.1, c5]
             refine call_one (S := openDSpec) rfl _ GaL.rfl ⟨x, rfl, ?_⟩
             have h0 := zIa (decide (openD x < part))
             rcases h0 with c6 | c6
             · rw [if_pos (.inr (of_decide_eq_true c6))] at hq
               simp -dsimp only [Vm.G, zA, zB, zC, zD, zE, zF, q40.1, c6]
               exact hq h hV (.refl _ _)
             · rw [if_neg (by rintro (h | h); rw [h] at c5; simp at c5; exact of_decide_eq_false c6 h)] at hq
               simp -dsimp only [Vm.G, zA, zB, zC, zD, zE, zF, q40.1, c6]
               refine call_one (S := lessSpec) rfl _ GaL.rfl ⟨d.kind, part, rfl, ?_⟩
               have hle := less_exp d.kind part
               simp -dsimp only [Vm.G, zA, zB, zC, zD, zE, zF, q40.1]
               refine call_one (S := chargeSpec) rfl _ GaL.rfl ⟨V, f, d.year, x.node, lessC d.kind part, by rw [hle], hV, fun h5 hV5 hs5 => ?_⟩
               generalize chargeOf f d.year x.node (lessC d.kind part) = q at hq hV5 ⊢
               rcases q with ⟨f1, w, qe⟩
               simp only at hq hV5 ⊢
               have h0 := zIa (qe != 0)
               rcases h0 with c7 | c7
               · rw [if_pos (by simpa using c7)] at hq
                 simp -dsimp only [Vm.G, zA, zB, zC, zD, zE, zF, q40.1, c7]
                 exact hq h5 hV5 hs5
               · rw [if_neg (by simpa using c7)] at hq
                 simp -dsimp only [Vm.G, zA, zB, zC, zD, zE, zF, q40.1, c7]
                 refine call_one (S := docsSetSpec) rfl _ GaL.rfl ⟨V, f1, doc, i, { x with can := w64 (x.can + part) }, hdo, hli, ⟨hxo.1, hxo.2.1, hxo.2.2.1, w64_range _⟩, rfl, hV5, fun h6 hV6 hs6 => ?_⟩
                 simp -dsimp only [Vm.G, zA, zB, zC, zD, zE, zF, q40.1]
                 exact hq h6 hV6 (hs5.trans hs6)
   · rw [hd] at hq
     simp only at hq
     simp only [dcCells]
     simp -dsimp only [Vm.G, zA, zB, zC, zD, zE, zF, q40.1]
     exact hq h hV (.refl _ _)
 · rw [if_pos c1] at hq
   simp -dsimp only [Vm.G, zA, zB, zC, zD, zE, zF, q40.1, c1]
   exact hq h hV (.refl _ _)
def rCancelSpec : Vm.Spec := fun args h Q => ∃ (R : RId) (f : Fun) (doc line part : Int), I64 doc ∧ I64 line ∧ args = [.ptr R.iv 0, .v (.int .i64 doc), .v (.int .i64 line), .v (.int .i64 part)] ∧ isRef h R f ∧ f.n ≤ 536870900 ∧
 ∀ h', isRef h' R (cancelF f doc line part).1 → Same h h' (rFoot R) → Q (.v (.int .i64 (cancelF f doc line part).2)) h'
theorem does_rCancel : Does Tryz.prog 41 rCancelSpec := by
 refine dA (good_cons does_rAmt (good_cons does_rDocsGet (good_cons does_rCheck (good_cons does_rDocsOpen (good_cons does_rCharge (good_cons does_rDocsSet good_nil)))))) Tryz.func41 rfl (by decide +kernel) ?_
 rintro args h Q ⟨R, f, doc, line, part, hdo, hli, rfl, hR, hn, hq⟩
 refine ⟨by simp [Tryz.f41], ?_⟩
 unfold cancelF at hq
 simp -dsimp only [Vm.G, zA, zB, zC, zD, zE, zF, q41.1]
 refine call_one (S := predSpec rightA) rfl _ GaL.rfl ⟨part, rfl, ?_⟩
 have h0 := zIa (rightA part)
 rcases h0 with c1 | c1
 · rw [if_neg (by rw [c1]; decide)] at hq
   simp -dsimp only [Vm.G, zA, zB, zC, zD, zE, zF, q41.1, c1]
   refine call_one (S := rDocsGetSpec) rfl _ GaL.rfl ⟨R, f, doc, rfl, hR, by omega, fun d l hd hl6 hdl => ?_, fun hd => ?_⟩
   · rw [hd] at hq
     simp only at hq
     simp only [dcCells]
     have h0 := zIa (decide (line < 0))
     rcases h0 with c2 | c2
     · rw [if_pos (.inl (of_decide_eq_true c2))] at hq
       simp -dsimp only [Vm.G, zA, zB, zC, zD, zE, zF, q41.1, c2]
       exact hq h hR (.refl _ _)
     · have d2 := of_decide_eq_false c2
       have h0 := zIa (decide (line ≥ (l.length : Int)))
       rcases h0 with c3 | c3
       · rw [if_pos (.inr (of_decide_eq_true c3))] at hq
         simp -dsimp only [Vm.G, zA, zB, zC, zD, zE, zF, q41.1, c2, c3, zJa]
         exact hq h hR (.refl _ _)
       · have d3 := of_decide_eq_false c3
         rw [if_neg (by omega)] at hq
         simp -dsimp only [Vm.G, zA, zB, zC, zD, zE, zF, q41.1, c2, c3, zJa]
         refine call_one (S := rCheckSpec) rfl _ GaL.rfl ⟨R, f, d.year, rfl, hR, by omega, ?_⟩
         have h0 := zIa (checkY f d.year != 0)
         rcases h0 with c4 | c4
         · rw [if_pos (by simpa using c4)] at hq
           simp -dsimp only [Vm.G, zA, zB, zC, zD, zE, zF, q41.1, c4]
           exact hq h hR (.refl _ _)
         · rw [if_neg (by simpa using c4)] at hq
           have hie : ∃ i : Nat, line = i := ⟨line.toNat, by omega⟩
           rcases hie with ⟨i, hi⟩
           have hlt : i < l.length := by omega
           have hxe : ∃ x, l[i] = x := ⟨_, rfl⟩
           rcases hxe with ⟨x, hx⟩
           have hxo : x.ok := hx ▸ docAt_ok hd _ (zQa hlt)
           have hgd : l.getD line.toNat .zero = x := by rw [hi, zWa, List.getD_eq_getElem?_getD, zTa hlt, hx]; rfl
           have hgl : (l.map dlAv)[i]? = some (dlAv x) := by simp [hlt, hx]
           rw [hgd] at hq
           subst hi
           simp -dsimp only [Vm.G, zA, zB, zC, zD, zE, zF, q41.1, c4]
           refine idxO_intro (by omega) (by simp; omega) ?_
           simp -dsimp only [Vm.G, zA, zB, zC, zD, zE, zF, q41.1, zWa]
           refine eltA_intro hgl ?_
           simp only [dlAv, dlCells]
           simp -dsimp only [Vm.G, zA, zB, zC, zD, zE, zF, q41.1, AV.cells, zNb]
           have h0 := zIa (d.kind == 3)
           rcases h0 with c5 | c5
           · rw [if_pos (.inl (by simpa using c5))] at hq
             simp -dsimp only [Vm.G, zA, zB, zC, zD, zE, zF, q41.1, c5]
             exact hq h hR (.refl _ _)
           · simp -dsimp only [Vm.G, zA, zB, zC, zD, zE, zF, q41.1, c5]
             refine call_one (S := openDSpec) rfl _ GaL.rfl ⟨x, rfl, ?_⟩
             have h0 := zIa (decide (openD x < part))
             rcases h0 with c6 | c6
             · rw [if_pos (.inr (of_decide_eq_true c6))] at hq
               simp -dsimp only [Vm.G, zA, zB, zC, zD, zE, zF, q41.1, c6]
               exact hq h hR (.refl _ _)
             · rw [if_neg (by rintro (h | h); rw [h] at c5; simp at c5; exact of_decide_eq_false c6 h)] at hq
               have hne : ∀ z : Int, w64 (0 - z) = IntKind.i64.wrap (0 - z) := fun _ => rfl
               have h0 := zIa (d.kind == 1)
               rcases h0 with k1 | k1
               · have hl : lessC d.kind part = ⟨w64 (0 - part), 0, 0⟩ := by unfold lessC; rw [if_pos (by simpa using k1)]
                 simp -dsimp only [Vm.G, zA, zB, zC, zD, zE, zF, q41.1, c6, k1]
                 refine call_one (S := rChargeSpec) rfl _ GaL.rfl ⟨R, f, d.year, x.node, lessC d.kind part, by rw [hl], hR, hn, fun h5 hR5 hs5 => ?_⟩
                 have hcn := chargeOf_n f d.year x.node (lessC d.kind part)
                 generalize chargeOf f d.year x.node (lessC d.kind part) = q at hq hR5 hcn ⊢
                 rcases q with ⟨f1, w, qe⟩
                 simp only at hq hR5 hcn ⊢
                 have h0 := zIa (qe != 0)
                 rcases h0 with c7 | c7
                 · rw [if_pos (by simpa using c7)] at hq
                   simp -dsimp only [Vm.G, zA, zB, zC, zD, zE, zF, q41.1, c7]
                   exact hq h5 hR5 hs5
                 · rw [if_neg (by simpa using c7)] at hq
                   simp -dsimp only [Vm.G, zA, zB, zC, zD, zE, zF, q41.1, c7]
                   refine call_one (S := rDocsSetSpec) rfl _ GaL.rfl ⟨R, f1, doc, i, { x with can := w64 (x.can + part) }, hdo, hli, ⟨hxo.1, hxo.2.1, hxo.2.2.1, w64_range _⟩, rfl, hR5, by omega, fun h6 hR6 hs6 => ?_⟩
                   simp -dsimp only [Vm.G, zA, zB, zC, zD, zE, zF, q41.1]
                   exact hq h6 hR6 (hs5.trans hs6)
               · have h0 := zIa (d.kind == 2)
                 rcases h0 with k2 | k2
                 · have hl : lessC d.kind part = ⟨0, w64 (0 - part), 0⟩ := by unfold lessC; rw [if_neg (by simpa using k1), if_pos (by simpa using k2)]
                   simp -dsimp only [Vm.G, zA, zB, zC, zD, zE, zF, q41.1, c6, k1, k2]
                   refine call_one (S := rChargeSpec) rfl _ GaL.rfl ⟨R, f, d.year, x.node, lessC d.kind part, by rw [hl], hR, hn, fun h5 hR5 hs5 => ?_⟩
                   have hcn := chargeOf_n f d.year x.node (lessC d.kind part)
                   generalize chargeOf f d.year x.node (lessC d.kind part) = q at hq hR5 hcn ⊢
                   rcases q with ⟨f1, w, qe⟩
                   simp only at hq hR5 hcn ⊢
                   have h0 := zIa (qe != 0)
                   rcases h0 with c7 | c7
                   · rw [if_pos (by simpa using c7)] at hq
                     simp -dsimp only [Vm.G, zA, zB, zC, zD, zE, zF, q41.1, c7]
                     exact hq h5 hR5 hs5
                   · rw [if_neg (by simpa using c7)] at hq
                     simp -dsimp only [Vm.G, zA, zB, zC, zD, zE, zF, q41.1, c7]
                     refine call_one (S := rDocsSetSpec) rfl _ GaL.rfl ⟨R, f1, doc, i, { x with can := w64 (x.can + part) }, hdo, hli, ⟨hxo.1, hxo.2.1, hxo.2.2.1, w64_range _⟩, rfl, hR5, by omega, fun h6 hR6 hs6 => ?_⟩
                     simp -dsimp only [Vm.G, zA, zB, zC, zD, zE, zF, q41.1]
                     exact hq h6 hR6 (hs5.trans hs6)
                 · have hl : lessC d.kind part = ⟨0, 0, 0⟩ := by unfold lessC; rw [if_neg (by simpa using k1), if_neg (by simpa using k2)]
                   simp -dsimp only [Vm.G, zA, zB, zC, zD, zE, zF, q41.1, c6, k1, k2]
                   refine call_one (S := rChargeSpec) rfl _ GaL.rfl ⟨R, f, d.year, x.node, lessC d.kind part, by rw [hl], hR, hn, fun h5 hR5 hs5 => ?_⟩
                   have hcn := chargeOf_n f d.year x.node (lessC d.kind part)
                   generalize chargeOf f d.year x.node (lessC d.kind part) = q at hq hR5 hcn ⊢
                   rcases q with ⟨f1, w, qe⟩
                   simp only at hq hR5 hcn ⊢
                   have h0 := zIa (qe != 0)
                   rcases h0 with c7 | c7
                   · rw [if_pos (by simpa using c7)] at hq
                     simp -dsimp only [Vm.G, zA, zB, zC, zD, zE, zF, q41.1, c7]
                     exact hq h5 hR5 hs5
                   · rw [if_neg (by simpa using c7)] at hq
                     simp -dsimp only [Vm.G, zA, zB, zC, zD, zE, zF, q41.1, c7]
                     refine call_one (S := rDocsSetSpec) rfl _ GaL.rfl ⟨R, f1, doc, i, { x with can := w64 (x.can + part) }, hdo, hli, ⟨hxo.1, hxo.2.1, hxo.2.2.1, w64_range _⟩, rfl, hR5, by omega, fun h6 hR6 hs6 => ?_⟩
                     simp -dsimp only [Vm.G, zA, zB, zC, zD, zE, zF, q41.1]
                     exact hq h6 hR6 (hs5.trans hs6)
   · rw [hd] at hq
     simp only at hq
     simp only [dcCells]
     simp -dsimp only [Vm.G, zA, zB, zC, zD, zE, zF, q41.1]
     exact hq h hR (.refl _ _)
 · rw [if_pos c1] at hq
   simp -dsimp only [Vm.G, zA, zB, zC, zD, zE, zF, q41.1, c1]
   exact hq h hR (.refl _ _)
def rShNewSpec : Vm.Spec := fun args h Q => ∃ (R : RId) (f : Fun) (n : Nd), n.ok ∧ args = [.ptr R.iv 0, .agg (ndCells n)] ∧ isRef h R f ∧ f.n ≤ 536870912 ∧ ∀ h', isRef h' R (shNew f n).1 → Same h h' (rFoot R) → Q (.v (.int .i64 (shNew f n).2)) h'
theorem does_rShNew : Does Tryz.prog 35 rShNewSpec := by
 refine dA (good_cons does_rCheck (good_cons does_rClass (good_cons does_rcFund (good_cons does_rtGet (good_cons does_rcObj (good_cons does_rtPath (good_cons does_rtKids (good_cons does_rtGiven (good_cons does_rtPut good_nil))))))))) Tryz.func35 rfl (by decide +kernel) ?_
 rintro args h Q ⟨R, f, n, hok, rfl, hR, hn, hq⟩
 refine ⟨by simp [Tryz.f35], ?_⟩
 unfold shNew shiftNew at hq
 simp only [ndCells]
 simp -dsimp only [Vm.G, zA, zB, zC, zD, zE, zF, q35.1]
 refine call_one (S := rCheckSpec) rfl _ GaL.rfl ⟨R, f, n.year, rfl, hR, hn, ?_⟩
 have h0 := zIa (checkY f n.year != 0)
 rcases h0 with c1 | c1
 · rw [if_pos (by simpa using c1)] at hq
   simp -dsimp only [Vm.G, zA, zB, zC, zD, zE, zF, q35.1, c1]
   exact hq h hR (.refl _ _)
 · rw [if_neg (by simpa using c1)] at hq
   by_cases h1 : n.id < 1
   · have hfe : fairN n = 1 := by unfold fairN; rw [if_pos (.inl h1)]
     rw [hfe, if_pos (by decide)] at hq
     have c2 : decide (n.id < 1) = true := decide_eq_true h1
     simp -dsimp only [Vm.G, zA, zB, zC, zD, zE, zF, q35.1, c1, c2]
     exact hq h hR (.refl _ _)
   · have c2 : decide (n.id < 1) = false := decide_eq_false h1
     by_cases h2 : n.id > 999
     · have hfe : fairN n = 1 := by unfold fairN; rw [if_pos (.inr h2)]
       rw [hfe, if_pos (by decide)] at hq
       have c3 : decide (n.id > 999) = true := decide_eq_true h2
       simp -dsimp only [Vm.G, zA, zB, zC, zD, zE, zF, q35.1, c1, c2, c3]
       exact hq h hR (.refl _ _)
     · have c3 : decide (n.id > 999) = false := decide_eq_false h2
       have hf1 : ¬ (n.id < 1 ∨ n.id > 999) := by omega
       by_cases h3 : n.limit < 0
       · have hfe : fairN n = 1 := by unfold fairN; rw [if_neg hf1, if_pos (.inl h3)]
         rw [hfe, if_pos (by decide)] at hq
         have c4 : decide (n.limit < 0) = true := decide_eq_true h3
         simp -dsimp only [Vm.G, zA, zB, zC, zD, zE, zF, q35.1, c1, c2, c3, c4]
         exact hq h hR (.refl _ _)
       · have c4 : decide (n.limit < 0) = false := decide_eq_false h3
         by_cases h4 : n.limit > 9007199254740992
         · have hfe : fairN n = 1 := by unfold fairN; rw [if_neg hf1, if_pos (.inr h4)]
           rw [hfe, if_pos (by decide)] at hq
           have c5 : decide (n.limit > 9007199254740992) = true := decide_eq_true h4
           simp -dsimp only [Vm.G, zA, zB, zC, zD, zE, zF, q35.1, c1, c2, c3, c4, c5]
           exact hq h hR (.refl _ _)
         · have c5 : decide (n.limit > 9007199254740992) = false := decide_eq_false h4
           have hf2 : ¬ (n.limit < 0 ∨ n.limit > 9007199254740992) := by omega
           simp -dsimp only [Vm.G, zA, zB, zC, zD, zE, zF, q35.1, c1, c2, c3, c4, c5]
           refine call_one (S := classSpec) rfl _ GaL.rfl ⟨n.obj, rfl, ?_⟩
           have h0 := zIa (classOf n.obj != 5)
           rcases h0 with c6 | c6
           · have hfe : fairN n = 1 := by unfold fairN; rw [if_neg hf1, if_neg hf2, if_pos (show classOf n.obj ≠ 5 by simpa using c6)]
             rw [hfe, if_pos (by decide)] at hq
             simp -dsimp only [Vm.G, zA, zB, zC, zD, zE, zF, q35.1, c6]
             exact hq h hR (.refl _ _)
           · have hfe : fairN n = 0 := by unfold fairN; rw [if_neg hf1, if_neg hf2, if_neg (show ¬ classOf n.obj ≠ 5 by simpa using c6)]
             rw [hfe, if_neg (by decide)] at hq
             have hup : knownN f n = true → n.parent ≠ 0 → (nodeAt f n.year n.parent).isSome = true := fun c3 hp => by
               unfold knownN at c3
               simp only [Bool.and_eq_true, Bool.or_eq_true, beq_iff_eq] at c3
               exact c3.2.2.resolve_left hp
             have hke : ∃ b, knownN f n = b := ⟨_, rfl⟩
             rcases hke with ⟨kb, hkb⟩
             rw [hkb] at hq hup
             unfold knownN at hkb
             simp -dsimp only [Vm.G, zA, zB, zC, zD, zE, zF, q35.1, c6]
             refine call_one (S := rcFundSpec) rfl _ GaL.rfl ⟨R, f, n.fund, rfl, hR, hn, fun s hs => ?_, fun hs => ?_⟩
             · rw [hs] at hkb
               simp only [Option.isSome_some, Bool.true_and] at hkb
               simp -dsimp only [Vm.G, zA, zB, zC, zD, zE, zF, q35.1]
               refine call_one (S := rtGetSpec) rfl _ GaL.rfl ⟨R, f, n.year, n.parent, rfl, hR, hn, fun m hm => ?_, fun hm => ?_⟩
               · rw [hm] at hkb
                 simp only [Option.isSome_some, Bool.or_true, Bool.and_true] at hkb
                 simp only [ndCells]
                 simp -dsimp only [Vm.G, zA, zB, zC, zD, zE, zF, q35.1]
                 refine call_one (S := rcObjSpec) rfl _ GaL.rfl ⟨R, f, n.obj, rfl, hR, hn, ?_⟩
                 cases kb
                 · rw [if_pos rfl] at hq
                   simp -dsimp only [Vm.G, zA, zB, zC, zD, zE, zF, q35.1, hkb]
                   exact hq h hR (.refl _ _)
                 · rw [if_neg (by decide)] at hq
                   have hup := hup rfl
                   have h0 := zIa (n.parent != 0)
                   rcases h0 with c7 | c7
                   · simp -dsimp only [Vm.G, zA, zB, zC, zD, zE, zF, q35.1, hkb, c7]
                     refine call_one (S := rtGetSpec) rfl _ GaL.rfl ⟨R, f, n.year, n.id, rfl, hR, hn, fun m hm => ?_, fun hm => ?_⟩
                     · rw [if_pos (by rw [hm]; rfl)] at hq
                       simp only [ndCells]
                       simp -dsimp only [Vm.G, zA, zB, zC, zD, zE, zF, q35.1]
                       exact hq h hR (.refl _ _)
                     · rw [if_neg (by rw [hm]; decide)] at hq
                       simp only [ndCells]
                       unfold belowN at hq
                       have d1 : ¬ n.parent = 0 := by simpa using c7
                       rw [if_neg d1] at hq
                       have hpe := path_hdS (hup d1)
                       rcases hpe with ⟨p, r, hpr⟩
                       simp -dsimp only [Vm.G, zA, zB, zC, zD, zE, zF, q35.1, c7]
                       refine call_one (S := rtPathSpec) rfl _ GaL.rfl ⟨R, f, n.year, n.parent, rfl, hR, hn, ?_⟩
                       generalize pathOf f n.year 8 n.parent = P at hpr hq ⊢
                       by_cases h2 : 8 ≤ P.length
                       · have c2 : decide ((P.length : Int) ≥ 8) = true := decide_eq_true (by omega)
                         rw [if_pos h2, if_pos (by decide)] at hq
                         simp -dsimp only [Vm.G, zA, zB, zC, zD, zE, zF, q35.1, c2, zJa]
                         exact hq h hR (.refl _ _)
                       · have c2 : decide ((P.length : Int) ≥ 8) = false := decide_eq_false (by omega)
                         rw [if_neg h2] at hq
                         have hgl : (P.map ndAv)[0]? = some (ndAv p) := by rw [hpr]; rfl
                         have hhd : P.headD .zero = p := by rw [hpr]; rfl
                         have hPl : 0 < P.length := by rw [hpr]; simp
                         rw [hhd] at hq
                         simp -dsimp only [Vm.G, zA, zB, zC, zD, zE, zF, q35.1, c2, zJa]
                         refine draw_cont [] (.take 0 (.take 1 (.take 3 (.take 7 (.take 10 (.take 11 (.take 12 (.alt 2 (.alt 4 (.alt 5 (.alt 6 (.alt 8 (.take 9 (.alt 13 (.take 14 (.done)) .stop)) (.alt 13 (.alt 8 (.take 9 (.take 14 (.done))) .stop) (.stop))) (.alt 8 (.alt 6 (.take 9 (.alt 13 (.take 14 (.done)) .stop)) (.alt 13 (.alt 6 (.take 9 (.take 14 (.done))) .stop) (.stop))) (.alt 13 (.alt 6 (.alt 8 (.take 9 (.take 14 (.done))) .stop) (.alt 8 (.alt 6 (.take 9 (.take 14 (.done))) .stop) (.stop))) (.stop)))) (.alt 8 (.alt 5 (.alt 6 (.take 9 (.alt 13 (.take 14 (.done)) .stop)) (.alt 13 (.alt 6 (.take 9 (.take 14 (.done))) .stop) (.stop))) (.alt 13 (.alt 5 (.alt 6 (.take 9 (.take 14 (.done))) .stop) .stop) (.stop))) (.alt 13 (.alt 5 (.alt 6 (.alt 8 (.take 9 (.take 14 (.done))) .stop) (.alt 8 (.alt 6 (.take 9 (.take 14 (.done))) .stop) (.stop))) (.alt 8 (.alt 5 (.alt 6 (.take 9 (.take 14 (.done))) .stop) .stop) (.stop))) (.stop)))) (.alt 8 (.alt 4 (.alt 5 (.alt 6 (.take 9 (.alt 13 (.take 14 (.done)) .stop)) (.alt 13 (.alt 6 (.take 9 (.take 14 (.done))) .stop) (.stop))) (.alt 13 (.alt 5 (.alt 6 (.take 9 (.take 14 (.done))) .stop) .stop) (.stop))) (.alt 13 (.alt 4 (.alt 5 (.alt 6 (.take 9 (.take 14 (.done))) .stop) .stop) .stop) (.stop))) (.alt 13 (.alt 4 (.alt 5 (.alt 6 (.alt 8 (.take 9 (.take 14 (.done))) .stop) (.alt 8 (.alt 6 (.take 9 (.take 14 (.done))) .stop) (.stop))) (.alt 8 (.alt 5 (.alt 6 (.take 9 (.take 14 (.done))) .stop) .stop) (.stop))) (.alt 8 (.alt 4 (.alt 5 (.alt 6 (.take 9 (.take 14 (.done))) .stop) .stop) .stop) (.stop))) (.stop)))) (.alt 4 (.alt 2 (.alt 5 (.alt 6 (.alt 8 (.take 9 (.alt 13 (.take 14 (.done)) .stop)) (.alt 13 (.alt 8 (.take 9 (.take 14 (.done))) .stop) (.stop))) (.alt 8 (.alt 6 (.take 9 (.alt 13 (.take 14 (.done)) .stop)) (.alt 13 (.alt 6 (.take 9 (.take 14 (.done))) .stop) (.stop))) (.alt 13 (.alt 6 (.alt 8 (.take 9 (.take 14 (.done))) .stop) (.alt 8 (.alt 6 (.take 9 (.take 14 (.done))) .stop) (.stop))) (.stop)))) (.alt 8 (.alt 5 (.alt 6 (.take 9 (.alt 13 (.take 14 (.done)) .stop)) (.alt 13 (.alt 6 (.take 9 (.take 14 (.done))) .stop) (.stop))) (.alt 13 (.alt 5 (.alt 6 (.take 9 (.take 14 (.done))) .stop) .stop) (.stop))) (.alt 13 (.alt 5 (.alt 6 (.alt 8 (.take 9 (.take 14 (.done))) .stop) (.alt 8 (.alt 6 (.take 9 (.take 14 (.done))) .stop) (.stop))) (.alt 8 (.alt 5 (.alt 6 (.take 9 (.take 14 (.done))) .stop) .stop) (.stop))) (.stop)))) (.alt 8 (.alt 2 (.alt 5 (.alt 6 (.take 9 (.alt 13 (.take 14 (.done)) .stop)) (.alt 13 (.alt 6 (.take 9 (.take 14 (.done))) .stop) (.stop))) (.alt 13 (.alt 5 (.alt 6 (.take 9 (.take 14 (.done))) .stop) .stop) (.stop))) (.alt 13 (.alt 2 (.alt 5 (.alt 6 (.take 9 (.take 14 (.done))) .stop) .stop) .stop) (.stop))) (.alt 13 (.alt 2 (.alt 5 (.alt 6 (.alt 8 (.take 9 (.take 14 (.done))) .stop) (.alt 8 (.alt 6 (.take 9 (.take 14 (.done))) .stop) (.stop))) (.alt 8 (.alt 5 (.alt 6 (.take 9 (.take 14 (.done))) .stop) .stop) (.stop))) (.alt 8 (.alt 2 (.alt 5 (.alt 6 (.take 9 (.take 14 (.done))) .stop) .stop) .stop) (.stop))) (.stop)))) (.alt 8 (.alt 2 (.alt 4 (.alt 5 (.alt 6 (.take 9 (.alt 13 (.take 14 (.done)) .stop)) (.alt 13 (.alt 6 (.take 9 (.take 14 (.done))) .stop) (.stop))) (.alt 13 (.alt 5 (.alt 6 (.take 9 (.take 14 (.done))) .stop) .stop) (.stop))) (.alt 13 (.alt 4 (.alt 5 (.alt 6 (.take 9 (.take 14 (.done))) .stop) .stop) .stop) (.stop))) (.alt 4 (.alt 2 (.alt 5 (.alt 6 (.take 9 (.alt 13 (.take 14 (.done)) .stop)) (.alt 13 (.alt 6 (.take 9 (.take 14 (.done))) .stop) (.stop))) (.alt 13 (.alt 5 (.alt 6 (.take 9 (.take 14 (.done))) .stop) .stop) (.stop))) (.alt 13 (.alt 2 (.alt 5 (.alt 6 (.take 9 (.take 14 (.done))) .stop) .stop) .stop) (.stop))) (.alt 13 (.alt 2 (.alt 4 (.alt 5 (.alt 6 (.take 9 (.take 14 (.done))) .stop) .stop) .stop) (.alt 4 (.alt 2 (.alt 5 (.alt 6 (.take 9 (.take 14 (.done))) .stop) .stop) .stop) (.stop))) (.stop)))) (.alt 13 (.alt 2 (.alt 4 (.alt 5 (.alt 6 (.alt 8 (.take 9 (.take 14 (.done))) .stop) (.alt 8 (.alt 6 (.take 9 (.take 14 (.done))) .stop) (.stop))) (.alt 8 (.alt 5 (.alt 6 (.take 9 (.take 14 (.done))) .stop) .stop) (.stop))) (.alt 8 (.alt 4 (.alt 5 (.alt 6 (.take 9 (.take 14 (.done))) .stop) .stop) .stop) (.stop))) (.alt 4 (.alt 2 (.alt 5 (.alt 6 (.alt 8 (.take 9 (.take 14 (.done))) .stop) (.alt 8 (.alt 6 (.take 9 (.take 14 (.done))) .stop) (.stop))) (.alt 8 (.alt 5 (.alt 6 (.take 9 (.take 14 (.done))) .stop) .stop) (.stop))) (.alt 8 (.alt 2 (.alt 5 (.alt 6 (.take 9 (.take 14 (.done))) .stop) .stop) .stop) (.stop))) (.alt 8 (.alt 2 (.alt 4 (.alt 5 (.alt 6 (.take 9 (.take 14 (.done))) .stop) .stop) .stop) (.alt 4 (.alt 2 (.alt 5 (.alt 6 (.take 9 (.take 14 (.done))) .stop) .stop) .stop) (.stop))) (.stop)))) (.stop)))))))))))) (fun s h' => h' = h ∧ s 114 = .v (.bool (decide (w64 (underF f n.year n.parent + n.limit) > p.limit))) ∧ s 0 = .ptr R.iv 0 ∧ s 3 = .box (ndCells n)) (by kernel_rfl) (by kernel_rfl) (by kernel_rfl) (by decide) ?_ ?_
                         · clear hq
                           simp only [ndCells]
                           repeat' first
                             | with_reducible exact True.intro
                             | simp -dsimp only [Vm.G, zA, zB, zC, zD, zE, zF, q35.1, AV.cells, zNb, zJa, Int.toNat_zero]
                             | refine tree_alt ?_ ?_
                             | refine idxO_intro (by omega) (by simp; omega) ?_
                             | (refine eltA_intro hgl ?_; simp only [ndAv, ndCells])
                             | refine call_one (S := rtKidsSpec) rfl _ GaL.rfl ⟨R, f, n.year, n.parent, rfl, hR, hn, fun l hsc hln => ?_⟩
                             | (have hu := underF_eq hsc n.parent
                                have hkl : (kidsN n.year n.parent l).length ≤ l.length := Nat.le_trans (zQb ..) (zOb ..)
                                refine call_one (S := givenSpec) rfl _ GaL.rfl ⟨kidsN n.year n.parent l, by omega, rfl, ?_⟩
                                rw [← hu])
                             | repeat' first | rfl | exact True.intro | refine And.intro ?_ ?_
                         · rintro s h' ⟨rfl, e114, e0, e3⟩
                           simp only [ndCells] at e3
                           by_cases h3 : w64 (underF f n.year n.parent + n.limit) > p.limit
                           · rw [if_pos h3, if_pos (by decide)] at hq
                             rw [decide_eq_true h3] at e114
                             simp -dsimp only [Vm.G, zA, zB, zC, zD, zE, zF, q35.1, e114]
                             exact hq h' hR (.refl _ _)
                           · rw [if_neg h3, if_neg (by decide)] at hq
                             rw [decide_eq_false h3] at e114
                             simp -dsimp only [Vm.G, zA, zB, zC, zD, zE, zF, q35.1, e114, e0, e3]
                             refine call_one (S := rtPutSpec) rfl _ GaL.rfl ⟨R, f, bareOf n, rfl, bare_ok hok, hR, hn, fun h2 hR2 hs2 => ?_⟩
                             simp -dsimp only [Vm.G, zA, zB, zC, zD, zE, zF, q35.1]
                             exact hq h2 hR2 hs2
                   · simp -dsimp only [Vm.G, zA, zB, zC, zD, zE, zF, q35.1, hkb, c7]
                     refine call_one (S := rtGetSpec) rfl _ GaL.rfl ⟨R, f, n.year, n.id, rfl, hR, hn, fun m hm => ?_, fun hm => ?_⟩
                     · rw [if_pos (by rw [hm]; rfl)] at hq
                       simp only [ndCells]
                       simp -dsimp only [Vm.G, zA, zB, zC, zD, zE, zF, q35.1]
                       exact hq h hR (.refl _ _)
                     · rw [if_neg (by rw [hm]; decide)] at hq
                       simp only [ndCells]
                       unfold belowN at hq
                       have d1 : n.parent = 0 := by simpa using c7
                       rw [if_pos d1, if_neg (by decide)] at hq
                       simp -dsimp only [Vm.G, zA, zB, zC, zD, zE, zF, q35.1, c7]
                       refine call_one (S := rtPutSpec) rfl _ GaL.rfl ⟨R, f, bareOf n, rfl, bare_ok hok, hR, hn, fun h2 hR2 hs2 => ?_⟩
                       simp -dsimp only [Vm.G, zA, zB, zC, zD, zE, zF, q35.1]
                       exact hq h2 hR2 hs2
               · rw [hm] at hkb
                 simp only [Option.isSome_none, Bool.or_false] at hkb
                 simp only [ndCells]
                 simp -dsimp only [Vm.G, zA, zB, zC, zD, zE, zF, q35.1]
                 refine call_one (S := rcObjSpec) rfl _ GaL.rfl ⟨R, f, n.obj, rfl, hR, hn, ?_⟩
                 have h0 := zIa (objOk f n.obj)
                 rcases h0 with c7 | c7
                 · rw [c7, Bool.true_and] at hkb
                   have h0 := zIa (n.parent != 0)
                   rcases h0 with c8 | c8
                   · have : kb = false := by rw [← hkb]; simpa using c8
                     subst this
                     rw [if_pos rfl] at hq
                     simp -dsimp only [Vm.G, zA, zB, zC, zD, zE, zF, q35.1, c7, c8]
                     exact hq h hR (.refl _ _)
                   · have : kb = true := by rw [← hkb]; simpa using c8
                     subst this
                     rw [if_neg (by decide)] at hq
                     have hup := hup rfl
                     simp -dsimp only [Vm.G, zA, zB, zC, zD, zE, zF, q35.1, c7, c8]
                     refine call_one (S := rtGetSpec) rfl _ GaL.rfl ⟨R, f, n.year, n.id, rfl, hR, hn, fun m hm => ?_, fun hm => ?_⟩
                     · rw [if_pos (by rw [hm]; rfl)] at hq
                       simp only [ndCells]
                       simp -dsimp only [Vm.G, zA, zB, zC, zD, zE, zF, q35.1]
                       exact hq h hR (.refl _ _)
                     · rw [if_neg (by rw [hm]; decide)] at hq
                       simp only [ndCells]
                       unfold belowN at hq
                       have d1 : n.parent = 0 := by simpa using c8
                       rw [if_pos d1, if_neg (by decide)] at hq
                       simp -dsimp only [Vm.G, zA, zB, zC, zD, zE, zF, q35.1, c8]
                       refine call_one (S := rtPutSpec) rfl _ GaL.rfl ⟨R, f, bareOf n, rfl, bare_ok hok, hR, hn, fun h2 hR2 hs2 => ?_⟩
                       simp -dsimp only [Vm.G, zA, zB, zC, zD, zE, zF, q35.1]
                       exact hq h2 hR2 hs2
                 · rw [c7, zSa] at hkb
                   subst hkb
                   rw [if_pos rfl] at hq
                   simp -dsimp only [Vm.G, zA, zB, zC, zD, zE, zF, q35.1, c7]
                   exact hq h hR (.refl _ _)
             · rw [hs] at hkb
               simp only [Option.isSome_none, zSa] at hkb
               subst hkb
               rw [if_pos rfl] at hq
               simp -dsimp only [Vm.G, zA, zB, zC, zD, zE, zF, q35.1]
               refine call_one (S := rtGetSpec) rfl _ GaL.rfl ⟨R, f, n.year, n.parent, rfl, hR, hn, fun m hm => ?_, fun hm => ?_⟩
               · simp only [ndCells]
                 simp -dsimp only [Vm.G, zA, zB, zC, zD, zE, zF, q35.1]
                 exact hq h hR (.refl _ _)
               · simp only [ndCells]
                 simp -dsimp only [Vm.G, zA, zB, zC, zD, zE, zF, q35.1]
                 exact hq h hR (.refl _ _)
def memOf (mem : List Ent) (k : List UInt8) : Option (List UInt8) := (mget (strK k) mem).map fun e => bytesOf e.val
def memV (h : Heap) (V : VId) (g : Fun) : Prop := ∃ mem clk, h[V.im]? = some (.map mem clk) ∧ (∀ k, g k = memOf mem k) ∧ mem.length ≤ g.n
def wasR (h : Heap) (R : RId) (g : Fun) : Prop := ∃ lw : List KV, h[R.iw]? = some (tabObj lw) ∧ TabIs g lw ∧ lw.length ≤ g.n ∧ ∀ p ∈ lw, p.1.length ≤ 32 ∧ p.2.length ≤ 120
def BothW (h : Heap) (V : VId) (R : RId) (f g : Fun) : Prop := Both h V R f ∧ memV h V g ∧ wasR h R g
theorem memV.same {h h' : Heap} {V : VId} {g : Fun} {fp : List Nat} (hm : memV h V g) (hs : Same h h' fp) (hd : V.im ∉ fp) : memV h' V g := by
 obtain ⟨mem, clk, h1, h2⟩ := hm
 exact ⟨mem, clk, hs.get h1 hd, h2⟩
theorem wasR.same {h h' : Heap} {R : RId} {g : Fun} {fp : List Nat} (hw : wasR h R g) (hs : Same h h' fp) (hd : R.iw ∉ fp) : wasR h' R g := by
 obtain ⟨lw, h1, h2⟩ := hw
 exact ⟨lw, hs.get h1 hd, h2⟩
theorem isView.ne {h : Heap} {V : VId} {f : Fun} (hV : isView h V f) : V.iv ≠ V.ic ∧ V.iv ≠ V.im ∧ V.ic ≠ V.im := by
 obtain ⟨_, _, _, _, _, _, _, h4, _⟩ := hV
 exact h4
theorem isRef.ne {h : Heap} {R : RId} {f : Fun} (hR : isRef h R f) : R.iw ≠ R.inn ∧ R.iw ≠ R.it := by
 obtain ⟨_, _, _, _, _, _, _, h5, _⟩ := hR
 exact h5.2.2.2
theorem BothW.step {h h' h2 : Heap} {V : VId} {R : RId} {f f' g : Fun} (hB : BothW h V R f g) (hV : isView h' V f') (hs : Same h h' [V.ic]) (hR : isRef h2 R f') (hs2 : Same h' h2 (rFoot R)) : BothW h2 V R f' g := by
 obtain ⟨hB, hm, hw⟩ := hB
 refine ⟨hB.ref hV hR hs2, (hm.same hs ?_).same hs2 ?_, (hw.same hs ?_).same hs2 ?_⟩
 · have := hB.1.ne.2.2
   simp [Ne.symm this]
 · have := hB.2.2 V.im (by simp)
   simp [rFoot] at this ⊢
   exact ⟨this.2.2.1, this.2.2.2⟩
 · have := hB.2.2 V.ic (by simp)
   simp at this ⊢
   exact fun e => this.2.1 e.symm
 · have := hB.2.1.ne
   simp [rFoot]
   exact this
theorem BothW.quiet {h h' : Heap} {V : VId} {R : RId} {f g : Fun} (hB : BothW h V R f g) (hV : isView h' V f) (hs : Same h h' []) : BothW h' V R f g :=
 ⟨hB.1.quiet hV hs, hB.2.1.same hs (by simp), hB.2.2.same hs (by simp)⟩
theorem Both.quietB {h h' : Heap} {V : VId} {R : RId} {f g : Fun} (hB : BothW h V R f g) (hB2 : Both h' V R f) (hs : Same h h' []) : BothW h' V R f g :=
 ⟨hB2, hB.2.1.same hs (by simp), hB.2.2.same hs (by simp)⟩
theorem mdel_sub (k : Value) : ∀ es : List Ent, (mdel k es).Sublist es
 | [] => .slnil
 | e :: es => by
   unfold mdel
   split
   · exact List.sublist_cons_self ..
   · exact (mdel_sub k es).cons_cons e
theorem mget_cons (k : List UInt8) (e : Ent) (es : List Ent) {a : List UInt8} (he : e.key = strK a) : mget (strK k) (e :: es) = if k = a then some e else mget (strK k) es := by
 unfold mget
 rw [List.find?_cons, he, keyEq_str]
 by_cases h : k = a
 · rw [if_pos h, h]; simp
 · have : (k == a) = false := by simpa using h
   rw [if_neg h, this]
theorem mget_mdel (q k : List UInt8) : ∀ {es : List Ent}, (∀ e ∈ es, ∃ k, e.key = strK k) → (es.map kOf).Nodup → mget (strK k) (mdel (strK q) es) = if k = q then none else mget (strK k) es
 | [], _, _ => by simp [mdel, mget]
 | e :: es, hk, hn => by
   obtain ⟨a, ha⟩ := hk e (List.mem_cons_self ..)
   have hk' : ∀ e ∈ es, ∃ k, e.key = strK k := fun e he => hk e (List.mem_cons_of_mem _ he)
   rw [zLa, List.nodup_cons] at hn
   rw [kOf_eq ha] at hn
   unfold mdel
   rw [ha, keyEq_str]
   by_cases hq : q = a
   · subst hq
     simp only [beq_self_eq_true, if_true]
     rw [mget_cons k e es ha]
     by_cases hkq : k = q
     · rw [if_pos hkq, hkq]
       cases hg : mget (strK q) es with
       | none => rfl
       | some x => exact absurd ((mget_some hk' hn.2).1 (by rw [hg]; rfl)) hn.1
     · rw [if_neg hkq, if_neg hkq]
   · have h2 : (q == a) = false := by simpa using hq
     simp only [h2, Bool.false_eq_true, if_false]
     rw [mget_cons k e _ ha, mget_cons k e es ha, mget_mdel q k hk' hn.2]
     by_cases hka : k = a
     · have : ¬ k = q := fun e => hq (e ▸ hka)
       rw [if_pos hka, if_neg this, if_pos hka]
     · rw [if_neg hka, if_neg hka]
theorem Born.del {q : Value} {c : Nat} {es : List Ent} (h : Born es c) : Born (mdel q es) c :=
 ⟨⟨h.1.1.sublist ((mdel_sub q es).map _), h.1.2.sublist ((mdel_sub q es).map _)⟩, fun e he => h.2 e ((mdel_sub q es).mem he)⟩
structure Kept (mem0 done mem : List Ent) (clk : Nat) : Prop where
 wf : ∀ e ∈ mem, WfM e
 born : Born mem clk
 len : mem.length ≤ mem0.length + done.length
 short : ∀ e ∈ mem, (kOf e).length ≤ 32
 now : ∀ k, memOf mem k = nowOf done mem0 k
theorem nowOf_snoc {done mem0 : List Ent} {e : Ent} {q : List UInt8} (hq : e.key = strK q) (hk : ∀ e ∈ done, ∃ k, e.key = strK k) (hn : ((done ++ [e]).map kOf).Nodup) (k : List UInt8) :
   nowOf (done ++ [e]) mem0 k = if k = q then shapeOf e.val else nowOf done mem0 k := by
 have h1 : mget (strK k) (done ++ [e]) = (mget (strK k) done).or (mget (strK k) [e]) := by unfold mget; rw [List.find?_append]
 have h2 := mget_cons k e [] hq
 rw [zKa, List.nodup_append] at hn
 have hqd : q ∉ done.map kOf := fun hm => hn.2.2 q hm q (by simp [kOf_eq hq]) rfl
 unfold nowOf
 rw [h1, h2]
 by_cases hkq : k = q
 · subst hkq
   have : mget (strK k) done = none := by
     cases hg : mget (strK k) done with
     | none => rfl
     | some x => exact absurd ((mget_some hk hn.1).1 (by rw [hg]; rfl)) hqd
   rw [this]; simp
 · rw [if_neg hkq, if_neg hkq]
   have : mget (strK k) ([] : List Ent) = none := rfl
   rw [this, Option.or_none]
theorem Kept.del {mem0 done mem : List Ent} {clk : Nat} (h : Kept mem0 done mem clk) {e : Ent} {q : List UInt8} (hq : e.key = strK q) (hs : shapeOf e.val = none) (hk : ∀ e ∈ done, ∃ k, e.key = strK k) (hn : ((done ++ [e]).map kOf).Nodup) :
   Kept mem0 (done ++ [e]) (mdel (strK q) mem) clk := by
 refine ⟨fun x hx => h.wf x ((mdel_sub _ _).mem hx), h.born.del, ?_, fun x hx => h.short x ((mdel_sub _ _).mem hx), fun k => ?_⟩
 · have := (mdel_sub (strK q) mem).length_le
   have := h.len
   rw [zUa]; omega
 · rw [nowOf_snoc hq hk hn k, hs, ← h.now k]
   unfold memOf
   rw [mget_mdel q k (fun e he => (h.wf e he).1) h.born.1.2]
   split <;> rfl
theorem Kept.put {mem0 done mem : List Ent} {clk : Nat} (h : Kept mem0 done mem clk) {e : Ent} {q l : List UInt8} {x : AV} (hq : e.key = strK q) (hs : shapeOf e.val = some l) (hx : isB x l) (hl : l.length ≤ 120) (hq32 : q.length ≤ 32) (hk : ∀ e ∈ done, ∃ k, e.key = strK k) (hn : ((done ++ [e]).map kOf).Nodup) :
   Kept mem0 (done ++ [e]) (mput (strK q) x clk mem) (mclk (strK q) mem clk) := by
 have hkm : ∀ e ∈ mem, ∃ k, e.key = strK k := fun e he => (h.wf e he).1
 refine ⟨fun y hy => ?_, h.born.put hkm, ?_, fun y hy => ?_, fun k => ?_⟩
 · rcases mput_mem hy with hy | ⟨h1, h2⟩
   · exact h.wf y hy
   · exact ⟨⟨q, h1⟩, l, by rw [h2]; exact hx, hl⟩
 · have := mput_length (k := strK q) (v := x) (c := clk) mem
   have := h.len
   rw [zUa]
   simp only [zMa, zOa]
   omega
 · rcases mput_mem hy with hy | ⟨h1, h2⟩
   · exact h.short y hy
   · rw [kOf_eq h1]; exact hq32
 · rw [nowOf_snoc hq hk hn k, hs, ← h.now k]
   unfold memOf
   have hg := mget_mput (v := x) (c := clk) q k hkm
   have e1 : ∀ o : Option Ent, (o.map fun e => bytesOf e.val) = (o.map Ent.val).map bytesOf := fun o => by cases o <;> rfl
   rw [e1, hg]
   by_cases hkq : k = q
   · rw [if_pos hkq, if_pos hkq, Option.map_some, bytesOf_isB hx]
   · rw [if_neg hkq, if_neg hkq, ← e1]
theorem nowOf_perm {a b mem : List Ent} (h : a.Perm b) (hk : ∀ e ∈ a, ∃ k, e.key = strK k) (hn : (a.map kOf).Nodup) (k : List UInt8) : nowOf a mem k = nowOf b mem k := by
 have hk2 : ∀ e ∈ b, ∃ k, e.key = strK k := fun e he => hk e (h.mem_iff.2 he)
 have hn2 : (b.map kOf).Nodup := ((h.map kOf).nodup_iff).1 hn
 have : mget (strK k) a = mget (strK k) b := by
   cases hg : mget (strK k) b with
   | some e =>
     obtain ⟨h1, h2⟩ := (mget_iff hk2 hn2).1 hg
     exact (mget_iff hk hn).2 ⟨h.mem_iff.2 h1, h2⟩
   | none =>
     cases hg2 : mget (strK k) a with
     | none => rfl
     | some e =>
       obtain ⟨h1, h2⟩ := (mget_iff hk hn).1 hg2
       have := (mget_iff hk2 hn2).2 ⟨h.mem_iff.1 h1, h2⟩
       rw [hg] at this; cases this
 unfold nowOf
 rw [this]
def keysSpec : Vm.Spec := fun args h Q => ∃ (ic : Nat) (chg : List Ent) (clk : Nat), args = [.mp ic] ∧ h[ic]? = some (.map chg clk) ∧ (∀ e ∈ chg, WfC e) ∧ Born chg clk ∧ chg.length ≤ 1073741824 ∧ (∀ e ∈ chg, (kOf e).length ≤ 32) ∧
 ∀ l : List (List UInt8), l.length ≤ chg.length → (∀ k ∈ l, k.length ≤ 32) → Q (.own true 9 1 (l.map (vAv strK))) h
theorem does_keys : Does Tryz.prog 85 keysSpec := by
 refine dA (good_cons does_sortS good_nil) Tryz.func85 rfl (by decide +kernel) ?_
 rintro args h Q ⟨ic, chg, clk, rfl, g0, hw, hb, hn, hk32, hq⟩
 refine ⟨by simp [Tryz.f85], ?_⟩
 simp -dsimp only [Vm.G, zA, zB, zC, zD, zE, zF, q85.1]
 refine range_intro mt65 chg clk g0 ?_
 simp -dsimp only [Vm.G, zA, zB, zC, zD, zE, zF, q85.1]
 refine awp_loop (fun m s h' => ∃ done : List Ent, m = (leftE chg (done.map (·.born))).length ∧ done.length + m ≤ chg.length ∧ h' = h ∧ (∀ d ∈ done, d ∈ chg) ∧ (done.map (·.born)).Nodup ∧ s = mk [(3, .own true 9 1 (((done).map kOf).map (vAv strK))), (6, .iter ic clk ((done).map (·.born)) clk)])
   chg.length _ (le_mk _ ?_) ⟨[], (congrArg List.length (List.filter_eq_self.2 fun _ _ => rfl)).symm, by simp, rfl, by simp, by simp, rfl⟩ ?_
 · simp only [Vm.D]
   try simp -dsimp only [Vm.G, zA, zB, zC, zD, zE, zF, q85.1]
   repeat' first | exact .refl _ | exact .nil _ _ _ (by decide) | refine ⟨?_, ?_⟩
 · rintro m s h' ⟨done, rfl, hlen, rfl, hd, hdn, rfl⟩
   simp -dsimp only [Vm.G, zA, zB, zC, zD, zE, zF, q85.1]
   refine next_intro chg clk g0 (fun e he => hb.2 e he) (zMb _) (fun hlf => ?_) (fun e he => ?_)
   · have hD : done.Perm chg := seen_all hb.1.1 hd hdn hlf
     have hdl := hD.length_eq
     simp -dsimp only [Vm.G, zA, zB, zC, zD, zE, zF, q85.1]
     refine call_in _ _ _ ?_
     simp -dsimp only [Vm.G, zA, zB, zC, zD, zE, zF, q85.1, callI_eq, ownSl_own, ownSl_alias]
     refine callI_tup (S := orS (sortVSpec strK fun _ => True) sortVNil) (fun xs' => ∃ l' : List (List UInt8), xs' = l'.map (vAv strK) ∧ l'.Perm (done.map kOf)) rfl
       (fun xs' hx => ?_) (fun hx => ⟨?_, fun Q' hq' => .inr ⟨rfl, hq'⟩⟩) (fun c hc Q' hq' => .inl ⟨done.map kOf, _, c, 9, by rw [zJa], rfl, by rw [zJa]; omega, by rw [zJa] at hc; exact hc, fun l' hp _ => hq' _ _ ⟨l', rfl, hp⟩ ?_⟩) (fun xs' hx => ?_)
     · obtain ⟨l', rfl, hp⟩ := hx
       exact ⟨fun x hx => (hp.map _).mem_iff.1 hx, by rw [zJa, zJa, hp.length_eq]⟩
     · have hnil : done.map kOf = [] := List.map_eq_nil_iff.1 hx
       exact ⟨[], rfl, by rw [hnil]⟩
     · rw [List.take_of_length_le]
       rw [flat_v, zJa, Nat.mul_one]
       exact zMb _
     · obtain ⟨l', rfl, hp⟩ := hx
       have hll := hp.length_eq
       rw [zJa] at hll
       have hks : ∀ k ∈ l', k.length ≤ 32 := fun k hk => by
         obtain ⟨e, he, rfl⟩ := List.mem_map.1 (hp.mem_iff.1 hk)
         exact hk32 e (hd e he)
       simp -dsimp only [Vm.G, zA, zB, zC, zD, zE, zF, q85.1]
       exact hq l' (by omega) hks
   · obtain ⟨hem, heb⟩ := left_mem he
     obtain ⟨⟨k, hk⟩, x, l, b, hx, hl, hev⟩ := hw e hem
     obtain ⟨hd2, hdn2⟩ := done_more he hd hdn
     have hless := left_less he
     have emap : (done ++ [e]).map (·.born) = done.map (·.born) ++ [e.born] := by simp
     have hkk := kOf_eq hk
     simp -dsimp only [Vm.G, zA, zB, zC, zD, zE, zF, q85.1]
     refine entry_intro chg clk e g0 (find_born hb.1.1 hem) ?_
     simp only [hk, strK]
     simp -dsimp only [Vm.G, zA, zB, zC, zD, zE, zF, q85.1]
     refine bs_intro zr9 (by decide) (by decide) rfl rfl (by simp [solid, AV.cells]) ?_
     simp -dsimp only [Vm.G, zA, zB, zC, zD, zE, zF, q85.1]
     refine app_sl Tryz.underlying134 (by simp [AV.cells]) (by simp only [zJa, zMa, zOa]; omega) ?_
     simp -dsimp only [Vm.G, zA, zB, zC, zD, zE, zF, q85.1]
     refine kept_intro ⟨_, hless, _, le_mk [(3, .own true 9 1 (((done ++ [e]).map kOf).map (vAv strK))), (6, .iter ic clk ((done ++ [e]).map (·.born)) clk)] ?_, done ++ [e], by rw [emap], by rw [zUa]; simp only [zMa, zOa]; omega, rfl, hd2, hdn2, rfl⟩
     simp only [Vm.D, zKa, zLa, zNa, hkk, vAv, strK]
     try simp -dsimp only [Vm.G, zA, zB, zC, zD, zE, zF, q85.1, zKa, zLa, zNa, hkk, vAv, strK]
     repeat' first | exact .refl _ | exact .nil _ _ _ (by decide) | refine ⟨?_, ?_⟩
def wasWSpec : Vm.Spec := fun args h Q => ∃ (iv ic im : Nat) (mem : List Ent) (clk : Nat) (k : List UInt8), args = [.ptr iv 0, .sl 1 (k.map encB)] ∧ h[iv]? = some (vobj ic im) ∧ h[im]? = some (.map mem clk) ∧ (∀ e ∈ mem, WfM e) ∧
 ∀ (l : List UInt8) (b : Bool), Q (.tup [.sl 1 (l.map encB), .v (.bool b)]) h
theorem does_wasW : Does Tryz.prog 86 wasWSpec := by
 refine does_vwas.weak.imp ?_
 rintro args h Q ⟨iv, ic, im, mem, clk, k, rfl, h1, h2, hw, hq⟩
 refine ⟨iv, ic, im, mem, clk, k, rfl, h1, h2, hw, fun e he => ?_, fun he => ?_⟩
 · obtain ⟨-, l, hx, -⟩ := hw e (mget_mem he)
   exact ⟨_, .tup (.cons hx.ga GaL.rfl), hq l true⟩
 · exact ⟨_, .tup (.cons (.nil 1) GaL.rfl), hq [] false⟩
theorem lookup_shape {t kt et : TypeId} {P : Program} {id : Nat} {h : Heap} {K : AV → Prop} {z : Value} (hm : MapT P t kt et .string) (hz : (P.info? et).bind (·.zero) = some z) (hcz : cst z = .agg [.v (.slice none 0 0), .v (.bool false)]) (chg : List Ent) (clk : Nat) (hh : h[id]? = some (.map chg clk)) (hw : ∀ e ∈ chg, WfC e) (k : List UInt8)
   (hK : ∀ x l b, isB x l → l.length ≤ 120 → K (.agg [x, .v (.bool b)])) : awpLookup P t (.mp id) (.v (.string ⟨k.toArray⟩)) false h K := by
 refine lookup_intro hm hz chg clk hh trivial (keys_str fun e he => (hw e he).1) (fun e he => ?_) (fun he => ?_)
 · obtain ⟨-, x, l, b, hx, hl, hev⟩ := hw e (mget_mem he)
   show K e.val
   rw [hev]; exact hK x l b hx hl
 · show K (cst z)
   rw [hcz]; exact hK _ [] false (.inr ⟨rfl, rfl⟩) (by simp)
theorem len_snoc {α : Type} {l : List α} {x : α} {i : Nat} (h : l.length ≤ i) : (l ++ [x]).length ≤ i + 1 := by rw [zUa, List.length_singleton]; omega
def changesSpec : Vm.Spec := fun args h Q => ∃ (V : VId) (f : Fun), args = [.ptr V.iv 0] ∧ isView h V f ∧ f.n ≤ 536870912 ∧ ∀ (p : List KV) (d : List (List UInt8)), Q (.tup [.sl 2 (p.map kvAv), .sl 1 (d.map fun k => .sl 1 (k.map encB))]) h
theorem does_changes : Does Tryz.prog 31 changesSpec := by
 refine dA (good_cons does_vready (good_cons does_keys (good_cons does_wasW (good_cons does_equal (good_cons does_cloneW good_nil))))) Tryz.func31 rfl (by decide +kernel) ?_
 rintro args h Q ⟨V, f, rfl, ⟨chg, clk, mem, clk2, h1, h2, h3, h4, h5, h6, h7, hlen, hk32⟩, hfn, hq⟩
 refine ⟨by simp [Tryz.f31], ?_⟩
 simp -dsimp only [Vm.G, zA, zB, zC, zD, zE, zF, q31.1]
 refine call_one (S := vreadySpec) rfl _ GaL.rfl ⟨V.iv, V.ic, _, rfl, h1, ?_⟩
 simp -dsimp only [Vm.G, zA, zB, zC, zD, zE, zF, q31.1, h1]
 refine call_one (S := keysSpec) rfl _ GaL.rfl ⟨V.ic, chg, clk, rfl, h2, h5.1, h6.1, by omega, fun e he => hk32 e (.inl he), fun ks hkl hks32 => ?_⟩
 simp -dsimp only [Vm.G, zA, zB, zC, zD, zE, zF, q31.1]
 refine awp_loop (fun m s h' => ∃ (i : Nat) (pu : List KV) (de : List (List UInt8)), i + m = ks.length ∧ h' = h ∧ pu.length ≤ i ∧ de.length ≤ i ∧ s = mk [(0, .ptr V.iv 0), (4, .own true 132 2 ((pu).map kvAv)), (5, .own true 123 1 ((de).map fun k => AV.sl 1 (k.map encB))), (18, .own true 9 1 (ks.map (vAv strK))), (19, .v (.int .i64 ks.length)), (20, .v (.int .i64 (i : Nat)))])
   ks.length _ (le_mk _ ?_) ⟨0, [], [], by omega, rfl, by simp, by simp, rfl⟩ ?_
 · simp only [Vm.D]
   try simp -dsimp only [Vm.G, zA, zB, zC, zD, zE, zF, q31.1]
   repeat' first | exact .refl _ | exact .nil _ _ _ (by decide) | refine ⟨?_, ?_⟩
 · rintro m s h' ⟨i, pu, de, hi, rfl, hpu, hde, rfl⟩
   simp -dsimp only [Vm.G, zA, zB, zC, zD, zE, zF, q31.1]
   refine cond_intro (fun hcc => ?_) (fun hcc => ?_)
   · have hlt : i < ks.length := by have := of_decide_eq_true hcc; omega
     have hw2 := hwN i (by omega)
     have hgi : (ks.map (vAv strK))[i]? = some (vAv strK ks[i]) := by rw [List.getElem?_map, zTa hlt]; rfl
     have hk3 := hks32 ks[i] (zQa hlt)
     generalize ks[i] = k at hgi hk3
     have hks : (ByteArray.mk k.toArray).size ≤ maxLen := by
       have : (ByteArray.mk k.toArray).size = k.length := by simp [ByteArray.size]
       rw [this]; unfold maxLen; omega
     have hkd : (ByteArray.mk k.toArray).data.toList = k := by simp
     simp -dsimp only [Vm.G, zA, zB, zC, zD, zE, zF, q31.1]
     refine idxO_intro (xs := ks.map (vAv strK)) (by omega) (by simp; omega) ?_
     simp -dsimp only [Vm.G, zA, zB, zC, zD, zE, zF, q31.1, zWa]
     refine eltA_intro (xs := ks.map (vAv strK)) hgi ?_
     simp -dsimp only [Vm.G, zA, zB, zC, zD, zE, zF, q31.1, vAv, strK, AV.cells, zNb, h1]
     refine lookup_shape mt65 z137 (by simp [cst, plain]) chg clk h2 h5.1 k (fun x l b hx hl => ?_)
     have hg := hx.ga
     rcases hx with rfl | ⟨hl0, rfl⟩
     · simp -dsimp only [Vm.G, zA, zB, zC, zD, zE, zF, q31.1]
       refine cvX_bytes bt123 Tryz.underlying9 hks ?_
       simp -dsimp only [Vm.G, zA, zB, zC, zD, zE, zF, q31.1, hkd]
       refine call_one (S := wasWSpec) rfl _ GaL.rfl ⟨V.iv, V.ic, V.im, mem, clk2, k, rfl, h1, h3, h5.2, fun old was => ?_⟩
       cases b
       · cases was
         · simp -dsimp only [Vm.G, zA, zB, zC, zD, zE, zF, q31.1]
           refine cvX_bytes bt123 Tryz.underlying9 hks ?_
           simp -dsimp only [Vm.G, zA, zB, zC, zD, zE, zF, q31.1, hkd]
           refine call_one (S := cloneWSpec) rfl _ (GaL.cons hg .nil) ⟨l, by omega, rfl, ?_, ?_⟩
           · simp -dsimp only [Vm.G, zA, zB, zC, zD, zE, zF, q31.1]
             refine bs_intro zr132 (by decide) (by decide) rfl rfl (by simp [solid, AV.cells]) ?_
             simp -dsimp only [Vm.G, zA, zB, zC, zD, zE, zF, q31.1]
             refine app_sl Tryz.underlying60 (by simp [AV.cells]) (by simp only [zJa, zMa, zOa]; omega) ?_
             simp -dsimp only [Vm.G, zA, zB, zC, zD, zE, zF, q31.1]
             refine kept_intro ⟨ks.length - (i + 1), by omega, _, le_mk [(0, .ptr V.iv 0), (4, .own true 132 2 ((pu ++ [(k, l)]).map kvAv)), (5, .own true 123 1 ((de).map fun k => AV.sl 1 (k.map encB))), (18, .own true 9 1 (ks.map (vAv strK))), (19, .v (.int .i64 ks.length)), (20, .v (.int .i64 (i + 1 : Nat)))] ?_, i + 1, _, _, by omega, rfl, by exact len_snoc hpu, by omega, rfl⟩
             simp only [Vm.D, hw2, zKa, zLa, zNa, kvAv]
             try simp -dsimp only [Vm.G, zA, zB, zC, zD, zE, zF, q31.1, hw2, zKa, zLa, zNa, kvAv]
             repeat' first | exact .refl _ | exact .nil _ _ _ (by decide) | refine ⟨?_, ?_⟩
           · simp -dsimp only [Vm.G, zA, zB, zC, zD, zE, zF, q31.1]
             refine bs_intro zr132 (by decide) (by decide) rfl rfl (by simp [solid, AV.cells]) ?_
             simp -dsimp only [Vm.G, zA, zB, zC, zD, zE, zF, q31.1]
             refine app_sl Tryz.underlying60 (by simp [AV.cells]) (by simp only [zJa, zMa, zOa]; omega) ?_
             simp -dsimp only [Vm.G, zA, zB, zC, zD, zE, zF, q31.1]
             refine kept_intro ⟨ks.length - (i + 1), by omega, _, le_mk [(0, .ptr V.iv 0), (4, .own true 132 2 ((pu ++ [(k, l)]).map kvAv)), (5, .own true 123 1 ((de).map fun k => AV.sl 1 (k.map encB))), (18, .own true 9 1 (ks.map (vAv strK))), (19, .v (.int .i64 ks.length)), (20, .v (.int .i64 (i + 1 : Nat)))] ?_, i + 1, _, _, by omega, rfl, by exact len_snoc hpu, by omega, rfl⟩
             simp only [Vm.D, hw2, zKa, zLa, zNa, kvAv]
             try simp -dsimp only [Vm.G, zA, zB, zC, zD, zE, zF, q31.1, hw2, zKa, zLa, zNa, kvAv]
             repeat' first | exact .refl _ | exact .nil _ _ _ (by decide) | refine ⟨?_, ?_⟩
         · simp -dsimp only [Vm.G, zA, zB, zC, zD, zE, zF, q31.1]
           refine call_one (S := equalSpec) rfl _ (GaL.cons (.refl _) (GaL.cons hg .nil)) ⟨old, _, rfl, ?_⟩
           have he := zIa (old == l)
           rcases he with c | c
           · simp -dsimp only [Vm.G, zA, zB, zC, zD, zE, zF, q31.1, c]
             refine kept_intro ⟨ks.length - (i + 1), by omega, _, le_mk [(0, .ptr V.iv 0), (4, .own true 132 2 ((pu).map kvAv)), (5, .own true 123 1 ((de).map fun k => AV.sl 1 (k.map encB))), (18, .own true 9 1 (ks.map (vAv strK))), (19, .v (.int .i64 ks.length)), (20, .v (.int .i64 (i + 1 : Nat)))] ?_, i + 1, _, _, by omega, rfl, by omega, by omega, rfl⟩
             simp only [Vm.D, hw2, zKa, zLa, zNa, kvAv]
             try simp -dsimp only [Vm.G, zA, zB, zC, zD, zE, zF, q31.1, hw2, zKa, zLa, zNa, kvAv]
             repeat' first | exact .refl _ | exact .nil _ _ _ (by decide) | refine ⟨?_, ?_⟩
           · simp -dsimp only [Vm.G, zA, zB, zC, zD, zE, zF, q31.1, c]
             refine cvX_bytes bt123 Tryz.underlying9 hks ?_
             simp -dsimp only [Vm.G, zA, zB, zC, zD, zE, zF, q31.1, hkd]
             refine call_one (S := cloneWSpec) rfl _ (GaL.cons hg .nil) ⟨l, by omega, rfl, ?_, ?_⟩
             · simp -dsimp only [Vm.G, zA, zB, zC, zD, zE, zF, q31.1]
               refine bs_intro zr132 (by decide) (by decide) rfl rfl (by simp [solid, AV.cells]) ?_
               simp -dsimp only [Vm.G, zA, zB, zC, zD, zE, zF, q31.1]
               refine app_sl Tryz.underlying60 (by simp [AV.cells]) (by simp only [zJa, zMa, zOa]; omega) ?_
               simp -dsimp only [Vm.G, zA, zB, zC, zD, zE, zF, q31.1]
               refine kept_intro ⟨ks.length - (i + 1), by omega, _, le_mk [(0, .ptr V.iv 0), (4, .own true 132 2 ((pu ++ [(k, l)]).map kvAv)), (5, .own true 123 1 ((de).map fun k => AV.sl 1 (k.map encB))), (18, .own true 9 1 (ks.map (vAv strK))), (19, .v (.int .i64 ks.length)), (20, .v (.int .i64 (i + 1 : Nat)))] ?_, i + 1, _, _, by omega, rfl, by exact len_snoc hpu, by omega, rfl⟩
               simp only [Vm.D, hw2, zKa, zLa, zNa, kvAv]
               try simp -dsimp only [Vm.G, zA, zB, zC, zD, zE, zF, q31.1, hw2, zKa, zLa, zNa, kvAv]
               repeat' first | exact .refl _ | exact .nil _ _ _ (by decide) | refine ⟨?_, ?_⟩
             · simp -dsimp only [Vm.G, zA, zB, zC, zD, zE, zF, q31.1]
               refine bs_intro zr132 (by decide) (by decide) rfl rfl (by simp [solid, AV.cells]) ?_
               simp -dsimp only [Vm.G, zA, zB, zC, zD, zE, zF, q31.1]
               refine app_sl Tryz.underlying60 (by simp [AV.cells]) (by simp only [zJa, zMa, zOa]; omega) ?_
               simp -dsimp only [Vm.G, zA, zB, zC, zD, zE, zF, q31.1]
               refine kept_intro ⟨ks.length - (i + 1), by omega, _, le_mk [(0, .ptr V.iv 0), (4, .own true 132 2 ((pu ++ [(k, l)]).map kvAv)), (5, .own true 123 1 ((de).map fun k => AV.sl 1 (k.map encB))), (18, .own true 9 1 (ks.map (vAv strK))), (19, .v (.int .i64 ks.length)), (20, .v (.int .i64 (i + 1 : Nat)))] ?_, i + 1, _, _, by omega, rfl, by exact len_snoc hpu, by omega, rfl⟩
               simp only [Vm.D, hw2, zKa, zLa, zNa, kvAv]
               try simp -dsimp only [Vm.G, zA, zB, zC, zD, zE, zF, q31.1, hw2, zKa, zLa, zNa, kvAv]
               repeat' first | exact .refl _ | exact .nil _ _ _ (by decide) | refine ⟨?_, ?_⟩
       · cases was
         · simp -dsimp only [Vm.G, zA, zB, zC, zD, zE, zF, q31.1]
           refine kept_intro ⟨ks.length - (i + 1), by omega, _, le_mk [(0, .ptr V.iv 0), (4, .own true 132 2 ((pu).map kvAv)), (5, .own true 123 1 ((de).map fun k => AV.sl 1 (k.map encB))), (18, .own true 9 1 (ks.map (vAv strK))), (19, .v (.int .i64 ks.length)), (20, .v (.int .i64 (i + 1 : Nat)))] ?_, i + 1, _, _, by omega, rfl, by omega, by omega, rfl⟩
           simp only [Vm.D, hw2, zKa, zLa, zNa, kvAv]
           try simp -dsimp only [Vm.G, zA, zB, zC, zD, zE, zF, q31.1, hw2, zKa, zLa, zNa, kvAv]
           repeat' first | exact .refl _ | exact .nil _ _ _ (by decide) | refine ⟨?_, ?_⟩
         · simp -dsimp only [Vm.G, zA, zB, zC, zD, zE, zF, q31.1]
           refine cvX_bytes bt123 Tryz.underlying9 hks ?_
           simp -dsimp only [Vm.G, zA, zB, zC, zD, zE, zF, q31.1, hkd]
           refine bs_intro zr123 (by decide) (by decide) rfl rfl (by simp [solid, AV.cells]) ?_
           simp -dsimp only [Vm.G, zA, zB, zC, zD, zE, zF, q31.1]
           refine app_sl Tryz.underlying61 (by simp [AV.cells]) (by simp only [zJa, zMa, zOa]; omega) ?_
           simp -dsimp only [Vm.G, zA, zB, zC, zD, zE, zF, q31.1]
           refine kept_intro ⟨ks.length - (i + 1), by omega, _, le_mk [(0, .ptr V.iv 0), (4, .own true 132 2 ((pu).map kvAv)), (5, .own true 123 1 ((de ++ [k]).map fun k => AV.sl 1 (k.map encB))), (18, .own true 9 1 (ks.map (vAv strK))), (19, .v (.int .i64 ks.length)), (20, .v (.int .i64 (i + 1 : Nat)))] ?_, i + 1, _, _, by omega, rfl, by omega, by exact len_snoc hde, rfl⟩
           simp only [Vm.D, hw2, zKa, zLa, zNa, kvAv]
           try simp -dsimp only [Vm.G, zA, zB, zC, zD, zE, zF, q31.1, hw2, zKa, zLa, zNa, kvAv]
           repeat' first | exact .refl _ | exact .nil _ _ _ (by decide) | refine ⟨?_, ?_⟩
     · simp -dsimp only [Vm.G, zA, zB, zC, zD, zE, zF, q31.1]
       refine cvX_bytes bt123 Tryz.underlying9 hks ?_
       simp -dsimp only [Vm.G, zA, zB, zC, zD, zE, zF, q31.1, hkd]
       refine call_one (S := wasWSpec) rfl _ GaL.rfl ⟨V.iv, V.ic, V.im, mem, clk2, k, rfl, h1, h3, h5.2, fun old was => ?_⟩
       cases b
       · cases was
         · simp -dsimp only [Vm.G, zA, zB, zC, zD, zE, zF, q31.1]
           refine cvX_bytes bt123 Tryz.underlying9 hks ?_
           simp -dsimp only [Vm.G, zA, zB, zC, zD, zE, zF, q31.1, hkd]
           refine call_one (S := cloneWSpec) rfl _ (GaL.cons hg .nil) ⟨l, by omega, rfl, ?_, ?_⟩
           · simp -dsimp only [Vm.G, zA, zB, zC, zD, zE, zF, q31.1]
             refine bs_intro zr132 (by decide) (by decide) rfl rfl (by simp [solid, AV.cells]) ?_
             simp -dsimp only [Vm.G, zA, zB, zC, zD, zE, zF, q31.1]
             refine app_sl Tryz.underlying60 (by simp [AV.cells]) (by simp only [zJa, zMa, zOa]; omega) ?_
             simp -dsimp only [Vm.G, zA, zB, zC, zD, zE, zF, q31.1]
             refine kept_intro ⟨ks.length - (i + 1), by omega, _, le_mk [(0, .ptr V.iv 0), (4, .own true 132 2 ((pu ++ [(k, l)]).map kvAv)), (5, .own true 123 1 ((de).map fun k => AV.sl 1 (k.map encB))), (18, .own true 9 1 (ks.map (vAv strK))), (19, .v (.int .i64 ks.length)), (20, .v (.int .i64 (i + 1 : Nat)))] ?_, i + 1, _, _, by omega, rfl, by exact len_snoc hpu, by omega, rfl⟩
             simp only [Vm.D, hw2, zKa, zLa, zNa, kvAv]
             try simp -dsimp only [Vm.G, zA, zB, zC, zD, zE, zF, q31.1, hw2, zKa, zLa, zNa, kvAv]
             repeat' first | exact .refl _ | exact .nil _ _ _ (by decide) | refine ⟨?_, ?_⟩
           · simp -dsimp only [Vm.G, zA, zB, zC, zD, zE, zF, q31.1]
             refine bs_intro zr132 (by decide) (by decide) rfl rfl (by simp [solid, AV.cells]) ?_
             simp -dsimp only [Vm.G, zA, zB, zC, zD, zE, zF, q31.1]
             refine app_sl Tryz.underlying60 (by simp [AV.cells]) (by simp only [zJa, zMa, zOa]; omega) ?_
             simp -dsimp only [Vm.G, zA, zB, zC, zD, zE, zF, q31.1]
             refine kept_intro ⟨ks.length - (i + 1), by omega, _, le_mk [(0, .ptr V.iv 0), (4, .own true 132 2 ((pu ++ [(k, l)]).map kvAv)), (5, .own true 123 1 ((de).map fun k => AV.sl 1 (k.map encB))), (18, .own true 9 1 (ks.map (vAv strK))), (19, .v (.int .i64 ks.length)), (20, .v (.int .i64 (i + 1 : Nat)))] ?_, i + 1, _, _, by omega, rfl, by exact len_snoc hpu, by omega, rfl⟩
             simp only [Vm.D, hw2, zKa, zLa, zNa, kvAv]
             try simp -dsimp only [Vm.G, zA, zB, zC, zD, zE, zF, q31.1, hw2, zKa, zLa, zNa, kvAv]
             repeat' first | exact .refl _ | exact .nil _ _ _ (by decide) | refine ⟨?_, ?_⟩
         · simp -dsimp only [Vm.G, zA, zB, zC, zD, zE, zF, q31.1]
           refine call_one (S := equalSpec) rfl _ (GaL.cons (.refl _) (GaL.cons hg .nil)) ⟨old, _, rfl, ?_⟩
           have he := zIa (old == l)
           rcases he with c | c
           · simp -dsimp only [Vm.G, zA, zB, zC, zD, zE, zF, q31.1, c]
             refine kept_intro ⟨ks.length - (i + 1), by omega, _, le_mk [(0, .ptr V.iv 0), (4, .own true 132 2 ((pu).map kvAv)), (5, .own true 123 1 ((de).map fun k => AV.sl 1 (k.map encB))), (18, .own true 9 1 (ks.map (vAv strK))), (19, .v (.int .i64 ks.length)), (20, .v (.int .i64 (i + 1 : Nat)))] ?_, i + 1, _, _, by omega, rfl, by omega, by omega, rfl⟩
             simp only [Vm.D, hw2, zKa, zLa, zNa, kvAv]
             try simp -dsimp only [Vm.G, zA, zB, zC, zD, zE, zF, q31.1, hw2, zKa, zLa, zNa, kvAv]
             repeat' first | exact .refl _ | exact .nil _ _ _ (by decide) | refine ⟨?_, ?_⟩
           · simp -dsimp only [Vm.G, zA, zB, zC, zD, zE, zF, q31.1, c]
             refine cvX_bytes bt123 Tryz.underlying9 hks ?_
             simp -dsimp only [Vm.G, zA, zB, zC, zD, zE, zF, q31.1, hkd]
             refine call_one (S := cloneWSpec) rfl _ (GaL.cons hg .nil) ⟨l, by omega, rfl, ?_, ?_⟩
             · simp -dsimp only [Vm.G, zA, zB, zC, zD, zE, zF, q31.1]
               refine bs_intro zr132 (by decide) (by decide) rfl rfl (by simp [solid, AV.cells]) ?_
               simp -dsimp only [Vm.G, zA, zB, zC, zD, zE, zF, q31.1]
               refine app_sl Tryz.underlying60 (by simp [AV.cells]) (by simp only [zJa, zMa, zOa]; omega) ?_
               simp -dsimp only [Vm.G, zA, zB, zC, zD, zE, zF, q31.1]
               refine kept_intro ⟨ks.length - (i + 1), by omega, _, le_mk [(0, .ptr V.iv 0), (4, .own true 132 2 ((pu ++ [(k, l)]).map kvAv)), (5, .own true 123 1 ((de).map fun k => AV.sl 1 (k.map encB))), (18, .own true 9 1 (ks.map (vAv strK))), (19, .v (.int .i64 ks.length)), (20, .v (.int .i64 (i + 1 : Nat)))] ?_, i + 1, _, _, by omega, rfl, by exact len_snoc hpu, by omega, rfl⟩
               simp only [Vm.D, hw2, zKa, zLa, zNa, kvAv]
               try simp -dsimp only [Vm.G, zA, zB, zC, zD, zE, zF, q31.1, hw2, zKa, zLa, zNa, kvAv]
               repeat' first | exact .refl _ | exact .nil _ _ _ (by decide) | refine ⟨?_, ?_⟩
             · simp -dsimp only [Vm.G, zA, zB, zC, zD, zE, zF, q31.1]
               refine bs_intro zr132 (by decide) (by decide) rfl rfl (by simp [solid, AV.cells]) ?_
               simp -dsimp only [Vm.G, zA, zB, zC, zD, zE, zF, q31.1]
               refine app_sl Tryz.underlying60 (by simp [AV.cells]) (by simp only [zJa, zMa, zOa]; omega) ?_
               simp -dsimp only [Vm.G, zA, zB, zC, zD, zE, zF, q31.1]
               refine kept_intro ⟨ks.length - (i + 1), by omega, _, le_mk [(0, .ptr V.iv 0), (4, .own true 132 2 ((pu ++ [(k, l)]).map kvAv)), (5, .own true 123 1 ((de).map fun k => AV.sl 1 (k.map encB))), (18, .own true 9 1 (ks.map (vAv strK))), (19, .v (.int .i64 ks.length)), (20, .v (.int .i64 (i + 1 : Nat)))] ?_, i + 1, _, _, by omega, rfl, by exact len_snoc hpu, by omega, rfl⟩
               simp only [Vm.D, hw2, zKa, zLa, zNa, kvAv]
               try simp -dsimp only [Vm.G, zA, zB, zC, zD, zE, zF, q31.1, hw2, zKa, zLa, zNa, kvAv]
               repeat' first | exact .refl _ | exact .nil _ _ _ (by decide) | refine ⟨?_, ?_⟩
       · cases was
         · simp -dsimp only [Vm.G, zA, zB, zC, zD, zE, zF, q31.1]
           refine kept_intro ⟨ks.length - (i + 1), by omega, _, le_mk [(0, .ptr V.iv 0), (4, .own true 132 2 ((pu).map kvAv)), (5, .own true 123 1 ((de).map fun k => AV.sl 1 (k.map encB))), (18, .own true 9 1 (ks.map (vAv strK))), (19, .v (.int .i64 ks.length)), (20, .v (.int .i64 (i + 1 : Nat)))] ?_, i + 1, _, _, by omega, rfl, by omega, by omega, rfl⟩
           simp only [Vm.D, hw2, zKa, zLa, zNa, kvAv]
           try simp -dsimp only [Vm.G, zA, zB, zC, zD, zE, zF, q31.1, hw2, zKa, zLa, zNa, kvAv]
           repeat' first | exact .refl _ | exact .nil _ _ _ (by decide) | refine ⟨?_, ?_⟩
         · simp -dsimp only [Vm.G, zA, zB, zC, zD, zE, zF, q31.1]
           refine cvX_bytes bt123 Tryz.underlying9 hks ?_
           simp -dsimp only [Vm.G, zA, zB, zC, zD, zE, zF, q31.1, hkd]
           refine bs_intro zr123 (by decide) (by decide) rfl rfl (by simp [solid, AV.cells]) ?_
           simp -dsimp only [Vm.G, zA, zB, zC, zD, zE, zF, q31.1]
           refine app_sl Tryz.underlying61 (by simp [AV.cells]) (by simp only [zJa, zMa, zOa]; omega) ?_
           simp -dsimp only [Vm.G, zA, zB, zC, zD, zE, zF, q31.1]
           refine kept_intro ⟨ks.length - (i + 1), by omega, _, le_mk [(0, .ptr V.iv 0), (4, .own true 132 2 ((pu).map kvAv)), (5, .own true 123 1 ((de ++ [k]).map fun k => AV.sl 1 (k.map encB))), (18, .own true 9 1 (ks.map (vAv strK))), (19, .v (.int .i64 ks.length)), (20, .v (.int .i64 (i + 1 : Nat)))] ?_, i + 1, _, _, by omega, rfl, by omega, by exact len_snoc hde, rfl⟩
           simp only [Vm.D, hw2, zKa, zLa, zNa, kvAv]
           try simp -dsimp only [Vm.G, zA, zB, zC, zD, zE, zF, q31.1, hw2, zKa, zLa, zNa, kvAv]
           repeat' first | exact .refl _ | exact .nil _ _ _ (by decide) | refine ⟨?_, ?_⟩
   · have hge : ¬ i < ks.length := by have := of_decide_eq_false hcc; omega
     simp -dsimp only [Vm.G, zA, zB, zC, zD, zE, zF, q31.1]
     exact hq pu de
theorem heap_set_same {h : Heap} {i : Nat} {x : AObj} (hx : h[i]? = some x) : h.set i x = h := by
 apply List.ext_getElem?
 intro j
 rw [List.getElem?_set]
 split
 · rename_i e; subst e
   split
   · exact hx.symm
   · rename_i hn; exact absurd (get_lt hx) hn
 · rfl
theorem Kept.perm {mem0 done chg mem : List Ent} {clk : Nat} (h : Kept mem0 done mem clk) (hp : done.Perm chg) (hk : ∀ e ∈ chg, ∃ k, e.key = strK k) (hn : (chg.map kOf).Nodup) : Kept mem0 chg mem clk :=
 ⟨h.wf, h.born, by have := hp.length_eq; have := h.len; omega, h.short, fun k => by
   rw [h.now k]
   exact nowOf_perm hp (fun e he => hk e (hp.mem_iff.1 he)) ((hp.map kOf).nodup_iff.2 hn) k⟩
def keepSpec : Vm.Spec := fun args h Q => ∃ (V : VId) (chg mem : List Ent) (clk clk2 : Nat), args = [.ptr V.iv 0] ∧ h[V.iv]? = some (vobj V.ic V.im) ∧ h[V.ic]? = some (.map chg clk) ∧ h[V.im]? = some (.map mem clk2) ∧ (V.iv ≠ V.im ∧ V.ic ≠ V.im) ∧ ((∀ e ∈ chg, WfC e) ∧ ∀ e ∈ mem, WfM e) ∧ (Born chg clk ∧ Born mem clk2) ∧
 (∀ e, e ∈ chg ∨ e ∈ mem → (kOf e).length ≤ 32) ∧ ∀ mem' clk', Kept mem chg mem' clk' → Q (.tup []) (h.set V.im (.map mem' clk'))
theorem does_keep : Does Tryz.prog 32 keepSpec := by
 refine dA good_nil Tryz.func32 rfl (by decide +kernel) ?_
 rintro args h Q ⟨V, chg, mem, clk, clk2, rfl, h1, h2, h3, h4, h5, h6, hk32, hq⟩
 refine ⟨by simp [Tryz.f32], ?_⟩
 simp -dsimp only [Vm.G, zA, zB, zC, zD, zE, zF, q32.1, h1]
 refine range_intro mt65 chg clk h2 ?_
 simp -dsimp only [Vm.G, zA, zB, zC, zD, zE, zF, q32.1]
 refine awp_loop (fun m s h' => ∃ (done me : List Ent) (ck : Nat), m = (leftE chg (done.map (·.born))).length ∧ done.length + m ≤ chg.length ∧ Kept mem done me ck ∧ h' = h.set V.im (.map me ck) ∧ (∀ d ∈ done, d ∈ chg) ∧ (done.map (·.born)).Nodup ∧ s = mk [(0, .ptr V.iv 0), (8, .iter V.ic clk ((done).map (·.born)) clk)])
   chg.length _ (le_mk _ ?_) ⟨[], mem, clk2, (congrArg List.length (List.filter_eq_self.2 fun _ _ => rfl)).symm, by simp, ⟨h5.2, h6.2, by simp, fun e he => hk32 e (.inr he), fun k => rfl⟩, (heap_set_same h3).symm, by simp, by simp, rfl⟩ ?_
 · simp only [Vm.D]
   try simp -dsimp only [Vm.G, zA, zB, zC, zD, zE, zF, q32.1]
   repeat' first | exact .refl _ | exact .nil _ _ _ (by decide) | refine ⟨?_, ?_⟩
 · rintro m s h' ⟨done, me, ck, rfl, hlen, hK, hh, hd, hdn, rfl⟩
   have g1 : h'[V.iv]? = some (vobj V.ic V.im) := by rw [hh, zPa h4.1.symm]; exact h1
   have g2 : h'[V.ic]? = some (.map chg clk) := by rw [hh, zPa h4.2.symm]; exact h2
   have g3 : h'[V.im]? = some (.map me ck) := by rw [hh, zRa (get_lt h3)]
   simp -dsimp only [Vm.G, zA, zB, zC, zD, zE, zF, q32.1]
   refine next_intro chg clk g2 (fun e he => h6.1.2 e he) (zMb _) (fun hlf => ?_) (fun e he => ?_)
   · have hD : done.Perm chg := seen_all h6.1.1.1 hd hdn hlf
     simp -dsimp only [Vm.G, zA, zB, zC, zD, zE, zF, q32.1]
     rw [hh]
     exact hq me ck (hK.perm hD (fun e he => (h5.1 e he).1) h6.1.1.2)
   · obtain ⟨hem, heb⟩ := left_mem he
     obtain ⟨⟨k, hk⟩, x, l, b, hx, hl, hev⟩ := h5.1 e hem
     obtain ⟨hd2, hdn2⟩ := done_more he hd hdn
     have hless := left_less he
     have emap : (done ++ [e]).map (·.born) = done.map (·.born) ++ [e.born] := by simp
     have hkk := kOf_eq hk
     have hke : k.length ≤ 32 := by rw [← hkk]; exact hk32 e (.inl hem)
     have hkd : ∀ e ∈ done, ∃ k, e.key = strK k := fun e he => (h5.1 e (hd e he)).1
     have hnn : ((done ++ [e]).map kOf).Nodup := by
       have hdd : (done ++ [e]).Nodup := by
         exact List.Pairwise.of_map (fun e : Ent => e.born) (fun a b h e => h (by rw [e])) hdn2
       refine List.Pairwise.map kOf (fun a b hab => hab) ?_
       refine hdd.imp_of_mem fun {a b} ha hb hne => ?_
       intro e2
       exact hne (inj_of_map h6.1.1.2 (hd2 a ha) (hd2 b hb) e2)
     simp -dsimp only [Vm.G, zA, zB, zC, zD, zE, zF, q32.1]
     refine entry_intro chg clk e g2 (find_born h6.1.1.1 hem) ?_
     simp only [hk, strK, hev]
     cases b
     · have hx0 := hx
       rcases hx with rfl | ⟨rfl, rfl⟩
       · simp -dsimp only [Vm.G, zA, zB, zC, zD, zE, zF, q32.1]
         refine draw_cont [3] (.take 0 (.take 1 (.take 2 (.take 4 (.take 5 (.take 6 (.alt 3 (.alt 7 (.done) .stop) .stop))))))) (fun s h2 => h2 = h'.set V.im (.map (mput (strK k) (.sl 1 (l.map encB)) ck me) (mclk (strK k) me ck)) ∧ s 0 = .ptr V.iv 0 ∧ s 8 = .iter V.ic clk (done.map (·.born) ++ [e.born]) clk) (by kernel_rfl) (by kernel_rfl) (by kernel_rfl) (by decide) ?_ ?_
         · simp -dsimp only [Vm.G, zA, zB, zC, zD, zE, zF, q32.1, g1]
           refine update_intro mt67 me ck g3 trivial (keys_str fun e he => (hK.wf e he).1) ?_
           simp -dsimp only [Vm.G, zA, zB, zC, zD, zE, zF, q32.1]
           repeat' first | rfl | exact True.intro | refine And.intro ?_ ?_
         · rintro s h2 ⟨rfl, e0, e8⟩
           simp -dsimp only [Vm.G, zA, zB, zC, zD, zE, zF, q32.1, e0, e8]
           refine kept_intro ⟨_, hless, _, le_mk [(0, .ptr V.iv 0), (8, .iter V.ic clk ((done ++ [e]).map (·.born)) clk)] ?_, done ++ [e], _, _, by rw [emap], by rw [zUa]; simp only [zMa, zOa]; omega, hK.put hk (by rw [hev]; exact congrArg some (bytesOf_isB hx0)) hx0 hl hke hkd hnn, by rw [hh, List.set_set], hd2, hdn2, rfl⟩
           simp only [Vm.D, emap, e0, e8]
           try simp -dsimp only [Vm.G, zA, zB, zC, zD, zE, zF, q32.1, emap, e0, e8]
           repeat' first | exact .refl _ | exact .nil _ _ _ (by decide) | refine ⟨?_, ?_⟩
       · simp -dsimp only [Vm.G, zA, zB, zC, zD, zE, zF, q32.1]
         refine draw_cont [3] (.take 0 (.take 1 (.take 2 (.take 4 (.take 5 (.take 6 (.alt 3 (.alt 7 (.done) .stop) .stop))))))) (fun s h2 => h2 = h'.set V.im (.map (mput (strK k) (.v (.slice none 0 0)) ck me) (mclk (strK k) me ck)) ∧ s 0 = .ptr V.iv 0 ∧ s 8 = .iter V.ic clk (done.map (·.born) ++ [e.born]) clk) (by kernel_rfl) (by kernel_rfl) (by kernel_rfl) (by decide) ?_ ?_
         · simp -dsimp only [Vm.G, zA, zB, zC, zD, zE, zF, q32.1, g1]
           refine update_intro mt67 me ck g3 trivial (keys_str fun e he => (hK.wf e he).1) ?_
           simp -dsimp only [Vm.G, zA, zB, zC, zD, zE, zF, q32.1]
           repeat' first | rfl | exact True.intro | refine And.intro ?_ ?_
         · rintro s h2 ⟨rfl, e0, e8⟩
           simp -dsimp only [Vm.G, zA, zB, zC, zD, zE, zF, q32.1, e0, e8]
           refine kept_intro ⟨_, hless, _, le_mk [(0, .ptr V.iv 0), (8, .iter V.ic clk ((done ++ [e]).map (·.born)) clk)] ?_, done ++ [e], _, _, by rw [emap], by rw [zUa]; simp only [zMa, zOa]; omega, hK.put hk (by rw [hev]; exact congrArg some (bytesOf_isB hx0)) hx0 hl hke hkd hnn, by rw [hh, List.set_set], hd2, hdn2, rfl⟩
           simp only [Vm.D, emap, e0, e8]
           try simp -dsimp only [Vm.G, zA, zB, zC, zD, zE, zF, q32.1, emap, e0, e8]
           repeat' first | exact .refl _ | exact .nil _ _ _ (by decide) | refine ⟨?_, ?_⟩
     · have hx0 := hx
       have hs : shapeOf e.val = none := by rw [hev]; rfl
       rcases hx with rfl | ⟨rfl, rfl⟩
       · simp -dsimp only [Vm.G, zA, zB, zC, zD, zE, zF, q32.1, g1]
         refine delete_intro mt67 me ck g3 trivial (keys_str fun e he => (hK.wf e he).1) ?_
         simp -dsimp only [Vm.G, zA, zB, zC, zD, zE, zF, q32.1]
         refine kept_intro ⟨_, hless, _, le_mk [(0, .ptr V.iv 0), (8, .iter V.ic clk ((done ++ [e]).map (·.born)) clk)] ?_, done ++ [e], _, _, by rw [emap], by rw [zUa]; simp only [zMa, zOa]; omega, hK.del hk hs hkd hnn, by rw [hh, List.set_set]; rfl, hd2, hdn2, rfl⟩
         simp only [Vm.D, emap]
         try simp -dsimp only [Vm.G, zA, zB, zC, zD, zE, zF, q32.1, emap]
         repeat' first | exact .refl _ | exact .nil _ _ _ (by decide) | refine ⟨?_, ?_⟩
       · simp -dsimp only [Vm.G, zA, zB, zC, zD, zE, zF, q32.1, g1]
         refine delete_intro mt67 me ck g3 trivial (keys_str fun e he => (hK.wf e he).1) ?_
         simp -dsimp only [Vm.G, zA, zB, zC, zD, zE, zF, q32.1]
         refine kept_intro ⟨_, hless, _, le_mk [(0, .ptr V.iv 0), (8, .iter V.ic clk ((done ++ [e]).map (·.born)) clk)] ?_, done ++ [e], _, _, by rw [emap], by rw [zUa]; simp only [zMa, zOa]; omega, hK.del hk hs hkd hnn, by rw [hh, List.set_set]; rfl, hd2, hdn2, rfl⟩
         simp only [Vm.D, emap]
         try simp -dsimp only [Vm.G, zA, zB, zC, zD, zE, zF, q32.1, emap]
         repeat' first | exact .refl _ | exact .nil _ _ _ (by decide) | refine ⟨?_, ?_⟩
def commitSpec : Vm.Spec := fun args h Q => ∃ (V : VId) (f : Fun), args = [.ptr V.iv 0] ∧ isView h V f ∧ f.n ≤ 536870912 ∧ ∀ h', isView h' V f → memV h' V f → Same h h' [V.ic, V.im] → Q (.v (.int .i64 0)) h'
theorem does_commit : Does Tryz.prog 7 commitSpec := by
 refine dA (good_cons does_vready (good_cons does_changes (good_cons does_keep good_nil))) Tryz.func7 rfl (by decide +kernel) ?_
 rintro args h Q ⟨V, f, rfl, hV, hfn, hq⟩
 refine ⟨by simp [Tryz.f7], ?_⟩
 have hV0 := hV
 obtain ⟨chg, clk, mem, clk2, h1, h2, h3, h4, h5, h6, h7, hlen, hk32⟩ := hV
 simp -dsimp only [Vm.G, zA, zB, zC, zD, zE, zF, q7.1]
 refine call_one (S := vreadySpec) rfl _ GaL.rfl ⟨V.iv, V.ic, _, rfl, h1, ?_⟩
 simp -dsimp only [Vm.G, zA, zB, zC, zD, zE, zF, q7.1]
 refine call_one (S := changesSpec) rfl _ GaL.rfl ⟨V, f, rfl, hV0, hfn, fun p d => ?_⟩
 simp -dsimp only [Vm.G, zA, zB, zC, zD, zE, zF, q7.1, h1, bne_self_eq_false]
 refine nil_pointer Tryz.underlying66 ?_
 simp -dsimp only [Vm.G, zA, zB, zC, zD, zE, zF, q7.1]
 refine call_one (S := keepSpec) rfl _ GaL.rfl ⟨V, chg, mem, clk, clk2, rfl, h1, h2, h3, ⟨h4.2.1, h4.2.2⟩, h5, h6, hk32, fun me ck hK => ?_⟩
 have g1 : (h.set V.im (.map me ck))[V.iv]? = some (vobj V.ic V.im) := by rw [zPa h4.2.1.symm]; exact h1
 have g2 : (h.set V.im (.map me ck))[V.ic]? = some (.map chg clk) := by rw [zPa h4.2.2.symm]; exact h2
 have g3 : (h.set V.im (.map me ck))[V.im]? = some (.map me ck) := zRa (get_lt h3)
 have hsame : Same h (h.set V.im (.map me ck)) [V.ic, V.im] := ⟨by simp, fun i _ hi => zPa (by simp at hi; omega)⟩
 generalize h.set V.im (.map me ck) = hh at g1 g2 g3 hsame ⊢
 simp -dsimp only [Vm.G, zA, zB, zC, zD, zE, zF, q7.1, g1]
 refine clear_intro mt65 chg clk g2 ?_
 simp -dsimp only [Vm.G, zA, zB, zC, zD, zE, zF, q7.1]
 have k1 : (hh.set V.ic (.map [] clk))[V.iv]? = some (vobj V.ic V.im) := by rw [zPa h4.1.symm]; exact g1
 have k2 : (hh.set V.ic (.map [] clk))[V.ic]? = some (.map [] clk) := zRa (get_lt g2)
 have k3 : (hh.set V.ic (.map [] clk))[V.im]? = some (.map me ck) := by rw [zPa h4.2.2]; exact g3
 have hn : ∀ k, f k = memOf me k := fun k => by rw [hK.now k]; exact h7 k
 have hl : me.length ≤ f.n := by have := hK.len; omega
 refine hq _ ⟨[], clk, me, ck, k1, k2, k3, h4, ⟨by simp, hK.wf⟩, ⟨⟨⟨.nil, .nil⟩, by simp⟩, hK.born⟩, hn, by simpa using hl, fun e he => ?_⟩ ⟨me, ck, k3, hn, hl⟩ (hsame.trans ⟨by simp, fun i _ hi => zPa (by simp at hi; omega)⟩)
 rcases he with he | he
 · simp at he
 · exact hK.short e he
def abortSpec : Vm.Spec := fun args h Q => ∃ (V : VId) (f g : Fun), args = [.ptr V.iv 0] ∧ isView h V f ∧ memV h V g ∧ ∀ h', isView h' V g → memV h' V g → Same h h' [V.ic] → Q (.tup []) h'
theorem does_abort : Does Tryz.prog 10 abortSpec := by
 refine dA (good_cons does_vready good_nil) Tryz.func10 rfl (by decide +kernel) ?_
 rintro args h Q ⟨V, f, g, rfl, ⟨chg, clk, mem, clk2, h1, h2, h3, h4, h5, h6, h7, hlen, hk32⟩, ⟨mem', ck', hm1, hm2, hm3⟩, hq⟩
 refine ⟨by simp [Tryz.f10], ?_⟩
 rw [h3] at hm1
 cases hm1
 simp -dsimp only [Vm.G, zA, zB, zC, zD, zE, zF, q10.1]
 refine call_one (S := vreadySpec) rfl _ GaL.rfl ⟨V.iv, V.ic, _, rfl, h1, ?_⟩
 simp -dsimp only [Vm.G, zA, zB, zC, zD, zE, zF, q10.1, h1]
 refine clear_intro mt65 chg clk h2 ?_
 have k1 : (h.set V.ic (.map [] clk))[V.iv]? = some (vobj V.ic V.im) := by rw [zPa h4.1.symm]; exact h1
 have k2 : (h.set V.ic (.map [] clk))[V.ic]? = some (.map [] clk) := zRa (get_lt h2)
 have k3 : (h.set V.ic (.map [] clk))[V.im]? = some (.map mem clk2) := by rw [zPa h4.2.2]; exact h3
 have hsame : Same h (h.set V.ic (.map [] clk)) [V.ic] := Same.set _ _ _
 generalize h.set V.ic (.map [] clk) = hh at k1 k2 k3 hsame ⊢
 simp -dsimp only [Vm.E, zA, zB, zC, zD, zE, zG, zH, q10.1, k1]
 refine store_ptr _ k1 rfl rfl (by simp) ?_
 simp -dsimp only [Vm.G, zA, zB, zC, zD, zE, zF, q10.1]
 rw [heap_set_same k1]
 refine hq hh ⟨[], clk, mem, clk2, k1, k2, k3, h4, ⟨by simp, h5.2⟩, ⟨⟨⟨.nil, .nil⟩, by simp⟩, h6.2⟩, hm2, by simpa using hm3, fun e he => ?_⟩ ⟨mem, clk2, k3, hm2, hm3⟩ hsame
 rcases he with he | he
 · simp at he
 · exact hk32 e (.inr he)
def rComId (R : RId) (h : Heap) : RId := ⟨R.iv, h.length, R.inn, h.length + 1⟩
def rAbId (R : RId) (h : Heap) : RId := ⟨R.iv, R.iw, h.length, h.length + 1⟩
theorem set_two {h : Heap} {i : Nat} (hi : i < h.length) (x y z a : AObj) : ((h ++ [x]).set i y ++ [a]).set i z = h.set i z ++ [x, a] := by
 rw [List.set_append_left _ _ hi, List.append_assoc, List.set_append_left _ _ (by rw [zPb]; exact hi), List.set_set]
 rfl
theorem get_two {h : Heap} {i j : Nat} {x a z o : AObj} (hj : h[j]? = some o) (hne : j ≠ i) : (h.set i z ++ [x, a])[j]? = some o := by
 have hl : j < (h.set i z).length := by rw [zPb]; exact get_lt hj
 rw [zXa hl, zPa (Ne.symm hne)]; exact hj
theorem get_two0 (h : Heap) (i : Nat) (z x a : AObj) : (h.set i z ++ [x, a])[h.length]? = some x := by
 rw [zJb (by simp)]; simp
theorem get_two1 (h : Heap) (i : Nat) (z x a : AObj) : (h.set i z ++ [x, a])[h.length + 1]? = some a := by
 rw [zJb (by simp)]; simp
theorem get_twoI {h : Heap} {i : Nat} (hi : i < h.length) (z x a : AObj) : (h.set i z ++ [x, a])[i]? = some z := by
 rw [zXa (by rw [zPb]; exact hi), zRa hi]
theorem same_two {h : Heap} {i : Nat} (z x a : AObj) : Same h (h.set i z ++ [x, a]) [i] :=
 ⟨by simp, fun j hj hm => by rw [zXa (by rw [zPb]; exact hj), zPa (by simp at hm; omega)]⟩
theorem does_rCom0 : Does Tryz.prog 8 (fun args h Q => ∃ (R : RId) (ln : List KV), args = [.ptr R.iv 0] ∧ h[R.iv]? = some (.cells [.ptr R.iw 0, .ptr R.inn 0, .ptr R.it 0]) ∧ h[R.inn]? = some (tabObj ln) ∧
   Q (.tup []) (h.set R.iv (.cells [.ptr h.length 0, .ptr R.inn 0, .ptr (h.length + 1) 0]) ++ [tabObj ln, .cells [.v (.slice none 0 0)]])) := by
 refine dA good_nil Tryz.func8 rfl (by decide +kernel) ?_
 rintro args h Q ⟨R, ln, rfl, h1, h2, hq⟩
 refine ⟨by simp [Tryz.f8], ?_⟩
 have hlt := get_lt h1
 have k1 : ∀ r, (h ++ r)[R.iv]? = some (.cells [.ptr R.iw 0, .ptr R.inn 0, .ptr R.it 0]) := fun r => heap_get r h1
 unfold tabObj at h2 hq
 simp -dsimp only [Vm.G, zA, zB, zC, zD, zE, zF, q8.1, h1, h2, k1]
 have k2 : ((h ++ [AObj.cells [.sl 2 (ln.map kvAv)]]).set R.iv (.cells [AV.ptr h.length 0, .ptr R.inn 0, .ptr R.it 0]))[R.iv]? = some (.cells [AV.ptr h.length 0, .ptr R.inn 0, .ptr R.it 0]) := zRa (by simp; omega)
 have k3 : ∀ r, (((h ++ [AObj.cells [.sl 2 (ln.map kvAv)]]).set R.iv (.cells [AV.ptr h.length 0, .ptr R.inn 0, .ptr R.it 0])) ++ r)[R.iv]? = some (.cells [AV.ptr h.length 0, .ptr R.inn 0, .ptr R.it 0]) := fun r => heap_get r k2
 have k4 : ((h ++ [AObj.cells [.sl 2 (ln.map kvAv)]]).set R.iv (.cells [AV.ptr h.length 0, .ptr R.inn 0, .ptr R.it 0])).length = h.length + 1 := by simp
 have e1 : putCells [AV.ptr R.iw 0, .ptr R.inn 0, .ptr R.it 0] 0 [.ptr h.length 0] = [AV.ptr h.length 0, .ptr R.inn 0, .ptr R.it 0] := rfl
 try simp only [e1]
 simp -dsimp only [Vm.G, zA, zB, zC, zD, zE, zF, q8.1, k2, k3, k4]
 have e2 : putCells [AV.ptr h.length 0, .ptr R.inn 0, .ptr R.it 0] 2 [.ptr (h.length + 1) 0] = [.ptr h.length 0, .ptr R.inn 0, .ptr (h.length + 1) 0] := rfl
 try simp only [e2]
 rw [set_two hlt]
 exact hq
theorem does_rAb0 : Does Tryz.prog 11 (fun args h Q => ∃ (R : RId) (ln : List KV), args = [.ptr R.iv 0] ∧ h[R.iv]? = some (.cells [.ptr R.iw 0, .ptr R.inn 0, .ptr R.it 0]) ∧ h[R.iw]? = some (tabObj ln) ∧
   Q (.tup []) (h.set R.iv (.cells [.ptr R.iw 0, .ptr h.length 0, .ptr (h.length + 1) 0]) ++ [tabObj ln, .cells [.v (.slice none 0 0)]])) := by
 refine dA good_nil Tryz.func11 rfl (by decide +kernel) ?_
 rintro args h Q ⟨R, ln, rfl, h1, h2, hq⟩
 refine ⟨by simp [Tryz.f11], ?_⟩
 have hlt := get_lt h1
 have k1 : ∀ r, (h ++ r)[R.iv]? = some (.cells [.ptr R.iw 0, .ptr R.inn 0, .ptr R.it 0]) := fun r => heap_get r h1
 unfold tabObj at h2 hq
 simp -dsimp only [Vm.G, zA, zB, zC, zD, zE, zF, q11.1, h1, h2, k1]
 have k2 : ((h ++ [AObj.cells [.sl 2 (ln.map kvAv)]]).set R.iv (.cells [AV.ptr R.iw 0, .ptr h.length 0, .ptr R.it 0]))[R.iv]? = some (.cells [AV.ptr R.iw 0, .ptr h.length 0, .ptr R.it 0]) := zRa (by simp; omega)
 have k3 : ∀ r, (((h ++ [AObj.cells [.sl 2 (ln.map kvAv)]]).set R.iv (.cells [AV.ptr R.iw 0, .ptr h.length 0, .ptr R.it 0])) ++ r)[R.iv]? = some (.cells [AV.ptr R.iw 0, .ptr h.length 0, .ptr R.it 0]) := fun r => heap_get r k2
 have k4 : ((h ++ [AObj.cells [.sl 2 (ln.map kvAv)]]).set R.iv (.cells [AV.ptr R.iw 0, .ptr h.length 0, .ptr R.it 0])).length = h.length + 1 := by simp
 have e1 : putCells [AV.ptr R.iw 0, .ptr R.inn 0, .ptr R.it 0] 1 [.ptr h.length 0] = [AV.ptr R.iw 0, .ptr h.length 0, .ptr R.it 0] := rfl
 try simp only [e1]
 simp -dsimp only [Vm.G, zA, zB, zC, zD, zE, zF, q11.1, k2, k3, k4]
 have e2 : putCells [AV.ptr R.iw 0, .ptr h.length 0, .ptr R.it 0] 2 [.ptr (h.length + 1) 0] = [.ptr R.iw 0, .ptr h.length 0, .ptr (h.length + 1) 0] := rfl
 try simp only [e2]
 rw [set_two hlt]
 exact hq
theorem gaH_two {h : Heap} {i : Nat} (z x : AObj) : GaH (h.set i z ++ [x, .cells [.v (.slice none 0 0)]]) (h.set i z ++ [x, tabObj []]) :=
 GaH.append rfl fun i o' ho' => by
   match i, ho' with
   | 0, ho' => exact ⟨o', ho', .inl rfl⟩
   | 1, ho' => exact ⟨_, rfl, .inr ⟨_, _, rfl, (Option.some.inj ho').symm, .cons (.nil 2) .nil⟩⟩
   | i + 2, ho' => simp at ho'
def rComSpec : Vm.Spec := fun args h Q => ∃ (R : RId) (f : Fun), args = [.ptr R.iv 0] ∧ isRef h R f ∧ ∀ h', isRef h' (rComId R h) f → wasR h' (rComId R h) f → Same h h' [R.iv] → Q (.tup []) h'
theorem does_rCom : Does Tryz.prog 8 rComSpec := by
 refine (does_weakH does_rCom0).imp ?_
 rintro args h Q ⟨R, f, rfl, ⟨lw, ln, lt, h1, h2, h3, h4, ⟨n1, n2, n3, n4, n5⟩, h6, ⟨h7, h8⟩, h9⟩, hq⟩
 refine ⟨h, .refl h, R, ln, rfl, h1, h3, _, gaH_two _ _, ?_⟩
 have hi := get_lt h1
 have hn := get_lt h3
 refine hq _ ⟨ln, ln, [], get_twoI hi _ _ _, get_two0 _ _ _ _ _, get_two h3 n1.symm, get_two1 _ _ _ _ _, ⟨?_, ?_, ?_, ?_, ?_⟩, h6, ⟨h7, by simp⟩, h9⟩ ⟨ln, get_two0 _ _ _ _ _, h6, h7, h9⟩ (same_two _ _ _) <;> (simp only [rComId]; omega)
def rAbSpec : Vm.Spec := fun args h Q => ∃ (R : RId) (f g : Fun), args = [.ptr R.iv 0] ∧ isRef h R f ∧ wasR h R g ∧ ∀ h', isRef h' (rAbId R h) g → wasR h' (rAbId R h) g → Same h h' [R.iv] → Q (.tup []) h'
theorem does_rAb : Does Tryz.prog 11 rAbSpec := by
 refine (does_weakH does_rAb0).imp ?_
 rintro args h Q ⟨R, f, g, rfl, ⟨lw, ln, lt, h1, h2, h3, h4, ⟨n1, n2, n3, n4, n5⟩, h6, ⟨h7, h8⟩, h9⟩, ⟨lw2, w1, w2, w3, w4⟩, hq⟩
 rw [h2] at w1
 have hlw : lw = lw2 := by
   have := Option.some.inj w1
   unfold tabObj at this
   injection this with e
   injection e with e
   injection e with e1 e2
   exact List.map_inj_right (fun a b hab => by
     unfold kvAv at hab
     injection hab with h
     injection h with h1 h2
     injection h2 with h2 h3
     injection h1 with _ h1
     injection h2 with _ h2
     have i1 : a.1 = b.1 := by have := congrArg (List.map unB) h1; simpa [Function.comp_def, unB_encB] using this
     have i2 : a.2 = b.2 := by have := congrArg (List.map unB) h2; simpa [Function.comp_def, unB_encB] using this
     exact Prod.ext i1 i2) |>.1 e2
 subst hlw
 have nw : R.iw ≠ R.iv := fun e => by
   rw [e, h1] at h2
   have := Option.some.inj h2
   unfold tabObj at this
   injection this with e
   have := congrArg List.length e
   simp at this
 refine ⟨h, .refl h, R, lw, rfl, h1, h2, _, gaH_two _ _, ?_⟩
 have hi := get_lt h1
 have hn := get_lt h2
 refine hq _ ⟨lw, lw, [], get_twoI hi _ _ _, get_two h2 nw, get_two0 _ _ _ _ _, get_two1 _ _ _ _ _, ⟨?_, ?_, ?_, ?_, ?_⟩, w2, ⟨w3, by simp⟩, w4⟩ ⟨lw, get_two h2 nw, w2, w3, w4⟩ (same_two _ _ _) <;> (simp only [rAbId]; omega)
def samesSpec : Vm.Spec := fun args h Q => ∃ (V : VId) (R : RId) (f : Fun), args = [.ptr V.iv 0, .ptr R.iv 0] ∧ Both h V R f ∧ f.n ≤ 536870912 ∧ ∀ h', Both h' V R f → Same h h' [] → Q (.v (.bool true)) h'
theorem does_sames : Does Tryz.prog 18 samesSpec := by
 refine dA (good_cons does_scan (good_cons does_rScan (good_cons does_pairs good_nil))) Tryz.func18 rfl (by decide +kernel) ?_
 rintro args h Q ⟨V, R, f, rfl, hB, hn, hq⟩
 refine ⟨by simp [Tryz.f18], ?_⟩
 simp -dsimp only [Vm.G, zA, zB, zC, zD, zE, zF, q18.1]
 refine call_one (S := scanSpec) rfl _ (.cons (.refl _) (.cons (.nil 1) .nil)) ⟨V, f, [], rfl, by simp, hB.1, hn, fun l h1 hsc hln hV1 hs1 => ?_⟩
 have hB1 := hB.quiet hV1 hs1
 simp -dsimp only [Vm.G, zA, zB, zC, zD, zE, zF, q18.1]
 refine call_one (S := rScanSpec) rfl _ (.cons (.refl _) (.cons (.nil 1) .nil)) ⟨R, f, [], rfl, by simp, hB1.2.1, hn, fun l' hsc' hln' => ?_⟩
 obtain rfl := hsc.same hsc'
 simp -dsimp only [Vm.G, zA, zB, zC, zD, zE, zF, q18.1]
 refine call_one (S := pairsSpec) rfl _ GaL.rfl ⟨l, l, by omega, rfl, ?_⟩
 simp -dsimp only [Vm.G, zA, zB, zC, zD, zE, zF, q18.1, decide_true]
 exact hq _ hB1 hs1
theorem both_turn {h h1 h2 : Heap} {V : VId} {R R' : RId} {f k : Fun} (hB : Both h V R f) (hV : isView h1 V k) (hs : Same h h1 [V.ic, V.im]) (hR : isRef h2 R' k) (hs2 : Same h1 h2 [R.iv]) (hm : memV h1 V k) (hw : wasR h2 R' k)
   (hid : R' = rComId R h1 ∨ R' = rAbId R h1) : BothW h2 V R' k k := by
 obtain ⟨hB1, hB2, hB3⟩ := hB
 have hd : ∀ i ∈ [V.iv, V.ic, V.im], i ∉ [R.iv] := fun i hi hm => hB3 i hi (by simp at hm ⊢; exact .inl hm)
 have hlt : ∀ i ∈ [V.iv, V.ic, V.im], i < h1.length := fun i hi => by
   obtain ⟨chg, clk, mem, clk2, h1, h2, h3, h4⟩ := hV
   simp only [List.mem_cons, List.not_mem_nil, or_false] at hi
   rcases hi with rfl | rfl | rfl
   · exact get_lt h1
   · exact get_lt h2
   · exact get_lt h3
 refine ⟨⟨hV.same hs2 hd, hR, fun i hi hmem => ?_⟩, hm.same hs2 (hd _ (by simp)), hw⟩
 have h3 := hB3 i hi
 have h4 := hlt i hi
 simp only [List.mem_cons, List.not_mem_nil, or_false, not_or] at h3 hmem
 rcases hid with rfl | rfl
 · simp only [rComId] at hmem
   omega
 · simp only [rAbId] at hmem
   omega
def vnewWSpec : Vm.Spec := fun args h Q => args = [nilP] ∧ ∀ (V : VId) (h' : Heap), isView h' V noF → memV h' V noF → Q (.ptr V.iv 0) h'
theorem does_vnewW : Does Tryz.prog 20 vnewWSpec := does_vnew.imp (by
 rintro args h Q ⟨rfl, hq⟩
 refine ⟨rfl, hq ⟨h.length + 2, h.length, h.length + 1⟩ _ (isView_new h) ⟨[], 0, ?_, fun k => rfl, by simp⟩⟩
 rw [zJb (by simp)]; simp)
def rNewWSpec : Vm.Spec := fun args h Q => ∃ V : VId, args = [.sl 2 []] ∧ isView h V noF ∧ memV h V noF ∧ ∀ (R : RId) (h' : Heap), BothW h' V R noF noF → Q (.ptr R.iv 0) h'
theorem does_rNewW : Does Tryz.prog 21 rNewWSpec := does_rNew.imp (by
 rintro args h Q ⟨V, rfl, hV, ⟨mem, clk, m1, m2⟩, hq⟩
 refine ⟨rfl, hq (rNewId h) _ ⟨both_rnew hV, ⟨mem, clk, heap_get _ m1, m2⟩, ⟨[], ?_, TabIs.new, by simp, by simp⟩⟩⟩
 unfold rNewH rNewId
 rw [zJb (by simp)]; simp)
structure Dop where
 year : Int
 frm : Int
 lines : List Ln
def Dop.ok (k : Dop) : Prop := I64 k.year ∧ I64 k.frm ∧ ∀ x ∈ k.lines, x.ok
end Go.Proofs.Lx
