/- What the functions of the program do: their contracts. -/
import Derived.Test.YtneohggmipeknaaGreatDoorV2
import Derived.Test.YtneohggmipeknaaGreatDoorTFs
import Derived.Test.YtneohggmipeknaaGreatDoorW1
import Derived.Test.YtneohggmipeknaaGreatDoorShelfSs
open List renaming lookup → zA, length_map → zJa, mem_map → zLa, getElem_mem → zMa, getElem?_eq_getElem → zNa, length_cons → zOa, getElem_of_mem → zPa, mem_cons → zQa, map_cons → zTa, mem_append → zWa, mem_singleton → zYa, drop_eq_getElem_cons → zIb, map_append → zJb, map_nil → zKb, mem_cons_of_mem → zLb, drop_zero → zMb
open Nat renaming reduceAdd → zB, reduceBEq → zC, reduceLeDiff → zF, le_add_right → zXa, le_refl → zNb
open Int renaming reduceBNe → zD, reduceBEq → zE, toNat_natCast → zVa
open Bool renaming true_beq → zG, false_beq → zH, eq_false_or_eq_true → zIa, false_and → zRa, and_eq_true → zSa, and_false → zUa
open Option renaming bind_some → zKa
set_option maxRecDepth 20000
set_option maxHeartbeats 16000000
set_option linter.unusedSimpArgs false
set_option linter.unusedVariables false
namespace Go.Proofs.Lx
open Go.Vm
attribute [local irreducible] awpArr awpBin awpMake awpAppend awpCvX awpStrOf awpBinX awpSlice awpBS awpStore awpAlloc awpCopy awpIndex awpDraw awpIdxX awpFa awpField awpLookup awpUpdate awpDelete awpClear awpRange awpNext awpEntry awpBuild awpClearS awpIdxL awpTree appB awpIdxO eltA treeA
theorem does_rDl : Does Tryz.prog 182 rdlSpec := by
 refine dA (good_cons does_rPair good_nil) Tryz.func182 rfl (by decide +kernel) ?_
 rintro args h Q ⟨id, i, x, hid, hi, ⟨o1, o2, o3, o4⟩, rfl, hq⟩
 refine ⟨by simp [Tryz.f182], ?_⟩
 simp only [dlAv, dlCells]
 simp -dsimp only [Vm.G, zA, zB, zC, zD, zE, zF, q182.1]
 refine bs_intro zr3 (by decide) (by decide) rfl rfl (by simp [solid, AV.cells]) ?_
 simp -dsimp only [Vm.G, zA, zB, zC, zD, zE, zF, q182.1]
 refine bs_intro zr3 (by decide) (by decide) rfl rfl (by simp [solid, AV.cells]) ?_
 simp -dsimp only [Vm.G, zA, zB, zC, zD, zE, zF, q182.1]
 refine call_one (S := rPairSpec) rfl _ GaL.rfl ⟨76, [id, i], [x.node, x.orig, x.liq, x.can], by simp, by simp, ?_, rfl, ?_⟩
 · intro m hm
   simp only [zQa, List.not_mem_nil, or_false] at hm
   rcases hm with rfl | rfl | rfl | rfl <;> assumption
 · simp -dsimp only [Vm.G, zA, zB, zC, zD, zE, zF, q182.1]
   exact hq
theorem does_rDc : Does Tryz.prog 189 rdcSpec := by
 refine dA (good_cons does_rPair good_nil) Tryz.func189 rfl (by decide +kernel) ?_
 rintro args h Q ⟨d, ⟨o1, o2, o3, o4, o5⟩, rfl, hq⟩
 refine ⟨by simp [Tryz.f189], ?_⟩
 simp only [dcCells]
 simp -dsimp only [Vm.G, zA, zB, zC, zD, zE, zF, q189.1]
 refine bs_intro zr3 (by decide) (by decide) rfl rfl (by simp [solid, AV.cells]) ?_
 simp -dsimp only [Vm.G, zA, zB, zC, zD, zE, zF, q189.1]
 refine bs_intro zr3 (by decide) (by decide) rfl rfl (by simp [solid, AV.cells]) ?_
 simp -dsimp only [Vm.G, zA, zB, zC, zD, zE, zF, q189.1]
 refine call_one (S := rPairSpec) rfl _ GaL.rfl ⟨68, [d.id], [d.kind, d.year, d.frm, d.lines], by simp, by simp, ?_, rfl, ?_⟩
 · intro m hm
   simp only [zQa, List.not_mem_nil, or_false] at hm
   rcases hm with rfl | rfl | rfl | rfl <;> assumption
 · simp -dsimp only [Vm.G, zA, zB, zC, zD, zE, zF, q189.1]
   exact hq
def rDocOfSpec : Vm.Spec := fun args h Q => ∃ key val : List UInt8, key.length ≤ 1073741824 ∧ val.length ≤ 1073741824 ∧ args = [.agg [.sl 1 (key.map encB), .sl 1 (val.map encB)]] ∧
 (∀ d, docOf key val = some d → Q (.tup [.agg (dcCells d), .v (.bool true)]) h) ∧ (docOf key val = none → Q (.tup [.agg (dcCells .zero), .v (.bool false)]) h)
theorem does_rDocOf : Does Tryz.prog 177 rDocOfSpec := by
 refine dA (good_cons does_rBoth good_nil) Tryz.func177 rfl (by decide +kernel) ?_
 rintro args h Q ⟨key, val, hk, hv, rfl, hq1, hq2⟩
 refine ⟨by simp [Tryz.f177], ?_⟩
 unfold docOf at hq1 hq2
 rw [both_nums] at hq1 hq2
 simp only [dcCells, Dc.zero] at hq2
 simp -dsimp only [Vm.G, zA, zB, zC, zD, zE, zF, q177.1]
 refine call_one (S := rBothSpec) rfl _ GaL.rfl ⟨68, 1, 4, key, val, by omega, by omega, hk, hv, rfl, fun p hp => ?_, fun hp a b => ?_⟩
 · have hlen := both_length hp
   obtain ⟨kl, vl⟩ := p
   obtain ⟨hl1, hl2⟩ := hlen
   match kl, hl1 with
   | [k0], _ =>
   match vl, hl2 with
   | [b0, b1, b2, b3], _ =>
   rw [hp] at hq1
   have hq1' := hq1 _ rfl
   clear hq1 hq2 hp
   simp -dsimp only [Vm.G, zA, zB, zC, zD, zE, zF, q177.1]
   refine draw_cont [] (.take 0 (.take 1 (.take 2 (.take 3 (.take 4 (.take 5 (.take 6 (.take 7 (.take 8 (.take 9 (.take 10 (.take 11 (.take 12 (.take 13 (.take 14 (.alt 15 (.alt 16 (.alt 17 (.done) .stop) .stop) .stop)))))))))))))))) (fun s h2 => h2 = h ∧ s 2 = .box (dcCells ⟨k0, b0, b1, b2, b3⟩) ∧ s 3 = .v (.bool true)) (by kernel_rfl) (by kernel_rfl) (by kernel_rfl) (by decide) ?_ ?_
   · simp -dsimp only [Vm.G, zA, zB, zC, zD, zE, zF, q177.1, idx_lit, idxE_some, Int.reduceToNat, Int.reduceLE, decide_true, eq_self, encI]
     repeat' first | rfl | exact True.intro | refine And.intro ?_ ?_
   · rintro s h2 ⟨rfl, e2, e3⟩
     simp only [dcCells] at e2
     simp -dsimp only [Vm.G, zA, zB, zC, zD, zE, zF, q177.1, e2, e3]
     exact hq1'
 · rw [hp] at hq2
   simp -dsimp only [Vm.G, zA, zB, zC, zD, zE, zF, q177.1]
   exact hq2 rfl
def rLineOfSpec : Vm.Spec := fun args h Q => ∃ key val : List UInt8, key.length ≤ 1073741824 ∧ val.length ≤ 1073741824 ∧ args = [.agg [.sl 1 (key.map encB), .sl 1 (val.map encB)]] ∧
 (∀ d, lineOf key val = some d → Q (.tup [.agg (dlCells d), .v (.bool true)]) h) ∧ (lineOf key val = none → Q (.tup [.agg (dlCells .zero), .v (.bool false)]) h)
theorem does_rLineOf : Does Tryz.prog 227 rLineOfSpec := by
 refine dA (good_cons does_rBoth good_nil) Tryz.func227 rfl (by decide +kernel) ?_
 rintro args h Q ⟨key, val, hk, hv, rfl, hq1, hq2⟩
 refine ⟨by simp [Tryz.f227], ?_⟩
 unfold lineOf at hq1 hq2
 rw [both_nums] at hq1 hq2
 simp only [dlCells, Dl.zero] at hq2
 simp -dsimp only [Vm.G, zA, zB, zC, zD, zE, zF, q227.1]
 refine call_one (S := rBothSpec) rfl _ GaL.rfl ⟨76, 2, 4, key, val, by omega, by omega, hk, hv, rfl, fun p hp => ?_, fun hp a b => ?_⟩
 · have hlen := both_length hp
   obtain ⟨kl, vl⟩ := p
   obtain ⟨hl1, hl2⟩ := hlen
   match kl, hl1 with
   | [k0, k1], _ =>
   match vl, hl2 with
   | [b0, b1, b2, b3], _ =>
   rw [hp] at hq1
   have hq1' := hq1 _ rfl
   clear hq1 hq2 hp
   simp -dsimp only [Vm.G, zA, zB, zC, zD, zE, zF, q227.1]
   refine draw_cont [] (.take 0 (.take 1 (.take 2 (.take 3 (.take 4 (.take 5 (.take 6 (.take 7 (.take 8 (.take 9 (.take 10 (.take 11 (.alt 12 (.alt 13 (.alt 14 (.done) .stop) .stop) .stop))))))))))))) (fun s h2 => h2 = h ∧ s 2 = .box (dlCells ⟨b0, b1, b2, b3⟩) ∧ s 3 = .v (.bool true)) (by kernel_rfl) (by kernel_rfl) (by kernel_rfl) (by decide) ?_ ?_
   · simp -dsimp only [Vm.G, zA, zB, zC, zD, zE, zF, q227.1, idx_lit, idxE_some, Int.reduceToNat, Int.reduceLE, decide_true, eq_self, encI]
     repeat' first | rfl | exact True.intro | refine And.intro ?_ ?_
   · rintro s h2 ⟨rfl, e2, e3⟩
     simp only [dlCells] at e2
     simp -dsimp only [Vm.G, zA, zB, zC, zD, zE, zF, q227.1, e2, e3]
     exact hq1'
 · rw [hp] at hq2
   simp -dsimp only [Vm.G, zA, zB, zC, zD, zE, zF, q227.1]
   exact hq2 rfl
theorem lineOf_nil (key : List UInt8) : lineOf key [] = none := by
 unfold lineOf numsPair
 cases splitOf key with
 | none => rfl
 | some p => simp
theorem docOf_nil (key : List UInt8) : docOf key [] = none := by
 unfold docOf numsPair
 cases splitOf key with
 | none => rfl
 | some p => simp
def rlineSpec : Vm.Spec := fun args h Q => ∃ (R : RId) (f : Fun) (id i : Int), args = [.ptr R.iv 0, .v (.int .i64 id), .v (.int .i64 i)] ∧ isRef h R f ∧ f.n ≤ 536870912 ∧
 (∀ d, lineAt f id i = some d → Q (.tup [.agg (dlCells d), .v (.bool true)]) h) ∧ (lineAt f id i = none → Q (.tup [.agg (dlCells .zero), .v (.bool false)]) h)
theorem does_rline : Does Tryz.prog 178 rlineSpec := by
 refine dA (good_cons does_rKey (good_cons does_rGet (good_cons does_rLineOf good_nil))) Tryz.func178 rfl (by decide +kernel) ?_
 rintro args h Q ⟨R, f, id, i, rfl, hR, hfn, hq1, hq2⟩
 refine ⟨by simp [Tryz.f178], ?_⟩
 have hk := dlK_length id i
 unfold lineAt at hq1 hq2
 simp only [dlCells, Dl.zero] at hq2
 simp -dsimp only [Vm.G, zA, zB, zC, zD, zE, zF, q178.1]
 refine bs_intro zr3 (by decide) (by decide) rfl rfl (by simp [solid, AV.cells]) ?_
 simp -dsimp only [Vm.G, zA, zB, zC, zD, zE, zF, q178.1]
 refine call_one (S := keySpec) rfl _ GaL.rfl ⟨76, [id, i], by simp, rfl, ?_⟩
 have ek : keyOf 76 [id, i] = dlK id i := rfl
 simp -dsimp only [Vm.G, zA, zB, zC, zD, zE, zF, q178.1, ek]
 generalize dlK id i = key at hk hq1 hq2 ⊢
 refine call_one (S := rGetSpec) rfl _ GaL.rfl ⟨R, f, key, rfl, hR, hfn, fun v hf => ?_, fun hf => ?_⟩
 · have hvl := (hR.len hf).2
   rw [hf] at hq1 hq2
   simp only [zKa] at hq1 hq2
   simp -dsimp only [Vm.G, zA, zB, zC, zD, zE, zF, q178.1]
   refine call_one (S := rLineOfSpec) rfl _ GaL.rfl ⟨key, v, by omega, by omega, rfl, fun d hd => ?_, fun hd => ?_⟩
   · have hq := hq1 d hd
     simp only [dlCells] at hq ⊢
     simp -dsimp only [Vm.G, zA, zB, zC, zD, zE, zF, q178.1]
     exact hq
   · have hq := hq2 hd
     simp only [dlCells, Dl.zero]
     simp -dsimp only [Vm.G, zA, zB, zC, zD, zE, zF, q178.1]
     exact hq
 · rw [hf] at hq2
   simp -dsimp only [Vm.G, zA, zB, zC, zD, zE, zF, q178.1]
   refine call_one (S := rLineOfSpec) rfl _ GaL.rfl ⟨key, [], by omega, by simp, rfl, fun d hd => ?_, fun hd => ?_⟩
   · rw [lineOf_nil] at hd; cases hd
   · simp only [dlCells, Dl.zero]
     simp -dsimp only [Vm.G, zA, zB, zC, zD, zE, zF, q178.1]
     exact hq2 rfl
def rDocsGetSpec : Vm.Spec := fun args h Q => ∃ (R : RId) (f : Fun) (id : Int), args = [.ptr R.iv 0, .v (.int .i64 id)] ∧ isRef h R f ∧ f.n ≤ 536870912 ∧
 (∀ d l, docAt f id = some (d, l) → l.length ≤ 6 → d.lines = l.length → Q (.otup 1 true 48 4 (l.map dlAv) [.agg (dcCells d), .any, .v (.bool true)]) h) ∧
 (docAt f id = none → Q (.tup [.agg (dcCells .zero), .v (.slice none 0 0), .v (.bool false)]) h)
theorem does_rDocsGet : Does Tryz.prog 107 rDocsGetSpec := by
 refine does_of_awpO 1 (good_cons does_rKey (good_cons does_rGet (good_cons does_rDocOf (good_cons does_rline good_nil)))) Tryz.func107 rfl (by decide +kernel) (by decide +kernel) ?_
 rintro args h Q ⟨R, f, id, rfl, hR, hfn, hq1, hq2⟩
 refine ⟨by simp [Tryz.f107], ?_⟩
 rw [awpFuncO_some (by rfl)]
 have hk := dcK_length id
 unfold docAt docHead at hq1 hq2
 simp only [dcCells, Dc.zero] at hq2
 simp -dsimp only [Vm.G, zA, zB, zC, zD, zE, zF, q107.1]
 refine bs_intro zr3 (by decide) (by decide) rfl rfl (by simp [solid, AV.cells]) ?_
 simp -dsimp only [Vm.G, zA, zB, zC, zD, zE, zF, q107.1]
 refine call_one (S := keySpec) rfl _ GaL.rfl ⟨68, [id], by simp, rfl, ?_⟩
 have ek : keyOf 68 [id] = dcK id := rfl
 simp -dsimp only [Vm.G, zA, zB, zC, zD, zE, zF, q107.1, ek]
 generalize dcK id = key at hk hq1 hq2 ⊢
 refine call_one (S := rGetSpec) rfl _ GaL.rfl ⟨R, f, key, rfl, hR, hfn, fun v hf => ?_, fun hf => ?_⟩
 · have hvl := (hR.len hf).2
   rw [hf] at hq1 hq2
   simp only [zKa] at hq1 hq2
   simp -dsimp only [Vm.G, zA, zB, zC, zD, zE, zF, q107.1]
   refine call_one (S := rDocOfSpec) rfl _ GaL.rfl ⟨key, v, by omega, by omega, rfl, fun d hd => ?_, fun hd => ?_⟩
   · rw [hd] at hq1 hq2
     simp only [zKa] at hq1 hq2
     simp only [dcCells] at hq1 ⊢
     have hh := zIa (headOk id d)
     rcases hh with c | c
     · rw [if_pos c] at hq1 hq2
       simp only [zKa] at hq1 hq2
       have hk3 := headOk_iff.1 c
       rcases hk3 with ⟨hid, hd1, hd2⟩
       have hn : ∃ n : Nat, d.lines = n ∧ 1 ≤ n ∧ n ≤ 6 := ⟨d.lines.toNat, by omega, by omega, by omega⟩
       rcases hn with ⟨n, hn, hn1, hn6⟩
       have htn : d.lines.toNat = n := by omega
       rw [htn] at hq1 hq2
       have c1 : (d.id != id) = false := by simp [hid]
       have c2 : decide (d.lines < 1) = false := decide_eq_false (by omega)
       have c3 : decide (d.lines > 6) = false := decide_eq_false (by omega)
       simp -dsimp only [Vm.G, zA, zB, zC, zD, zE, zF, q107.1, c1, c2, c3]
       refine awp_loop (fun m s h' => ∃ (i : Nat) (l : List Dl), i + m = n ∧ h' = h ∧ linesAt f id i = some l ∧ s = mk [(0, .ptr R.iv 0), (1, .v (.int .i64 id)), (4, .box [.v (.int .i64 0), .v (.int .i64 0), .v (.int .i64 0), .v (.int .i64 0), .v (.int .i64 0)]), (10, .box [.v (.int .i64 d.id), .v (.int .i64 d.kind), .v (.int .i64 d.year), .v (.int .i64 d.frm), .v (.int .i64 d.lines)]), (12, .own true 48 4 ((l).map dlAv)), (13, .v (.int .i64 (i : Nat)))])
         n _ (le_mk _ ?_) ⟨0, [], by omega, rfl, rfl, rfl⟩ ?_
       · simp only [Vm.D]
         try simp -dsimp only [Vm.G, zA, zB, zC, zD, zE, zF, q107.1]
         repeat' first | exact .refl _ | exact .nil _ _ _ (by decide) | refine ⟨?_, ?_⟩
       · rintro m s h' ⟨i, l, hi, rfl, hli, rfl⟩
         simp -dsimp only [Vm.G, zA, zB, zC, zD, zE, zF, q107.1]
         refine cond_intro (fun hcc => ?_) (fun hcc => ?_)
         · have hlt : i < n := by have := of_decide_eq_true hcc; omega
           have hw := hwN i (by omega)
           have hll := linesAt_length hli
           have hsuc : linesAt f id (i + 1) = (lineAt f id i).map fun x => l ++ [x] := by
             show (linesAt f id i).bind _ = _
             rw [hli]; rfl
           simp -dsimp only [Vm.G, zA, zB, zC, zD, zE, zF, q107.1]
           refine call_one (S := rlineSpec) rfl _ GaL.rfl ⟨R, f, id, (i : Nat), rfl, hR, hfn, fun x hx => ?_, fun hx => ?_⟩
           · rw [hx] at hsuc
             have hsuc : linesAt f id (i + 1) = some (l ++ [x]) := hsuc
             simp only [dlCells]
             simp -dsimp only [Vm.G, zA, zB, zC, zD, zE, zF, q107.1]
             refine bs_intro zr48 (by decide) (by decide) rfl rfl (by simp [solid, AV.cells]) ?_
             simp -dsimp only [Vm.G, zA, zB, zC, zD, zE, zF, q107.1]
             refine app_sl Tryz.underlying43 (by simp [AV.cells]) (by simp only [zJa, zOa, List.length_nil]; omega) ?_
             simp -dsimp only [Vm.G, zA, zB, zC, zD, zE, zF, q107.1]
             refine kept_intro ⟨n - (i + 1), by omega, _, le_mk [(0, .ptr R.iv 0), (1, .v (.int .i64 id)), (4, .box [.v (.int .i64 0), .v (.int .i64 0), .v (.int .i64 0), .v (.int .i64 0), .v (.int .i64 0)]), (10, .box [.v (.int .i64 d.id), .v (.int .i64 d.kind), .v (.int .i64 d.year), .v (.int .i64 d.frm), .v (.int .i64 d.lines)]), (12, .own true 48 4 ((l ++ [x]).map dlAv)), (13, .v (.int .i64 (i + 1 : Nat)))] ?_, i + 1, l ++ [x], by omega, rfl, hsuc, rfl⟩
             simp only [Vm.D, hw, dlAv, dlCells, zJb, zTa, zKb]
             try simp -dsimp only [Vm.G, zA, zB, zC, zD, zE, zF, q107.1, hw, dlAv, dlCells, zJb, zTa, zKb]
             repeat' first | exact .refl _ | exact .nil _ _ _ (by decide) | refine ⟨?_, ?_⟩
           · rw [hx] at hsuc
             rw [linesAt_none (m := n) (by omega) hsuc] at hq2
             simp only [dlCells]
             simp -dsimp only [Vm.G, zA, zB, zC, zD, zE, zF, q107.1]
             exact hq2 rfl
         · have hge : ¬ i < n := by have := of_decide_eq_false hcc; omega
           obtain rfl : i = n := by omega
           rw [hli] at hq1
           have hll := linesAt_length hli
           have hq := hq1 d l rfl (by omega) (by omega)
           clear hq1 hq2
           simp -dsimp only [Vm.G, zA, zB, zC, zD, zE, zF, q107.1]
           exact hq
     · rw [if_neg (by rw [c]; decide)] at hq2
       have hq2 := hq2 rfl
       have h1 := zIa (d.id != id)
       rcases h1 with c1 | c1
       · simp -dsimp only [Vm.G, zA, zB, zC, zD, zE, zF, q107.1, c1]
         exact hq2
       · have h2 := zIa (decide (d.lines < 1))
         rcases h2 with c2 | c2
         · simp -dsimp only [Vm.G, zA, zB, zC, zD, zE, zF, q107.1, c1, c2]
           exact hq2
         · have h3 := zIa (decide (d.lines > 6))
           rcases h3 with c3 | c3
           · simp -dsimp only [Vm.G, zA, zB, zC, zD, zE, zF, q107.1, c1, c2, c3]
             exact hq2
           · exfalso
             have d1 : d.id = id := by simpa using c1
             have d2 := of_decide_eq_false c2
             have d3 := of_decide_eq_false c3
             rw [headOk_iff.2 ⟨d1, by omega, by omega⟩] at c
             cases c
   · rw [hd] at hq2
     simp only [dcCells, Dc.zero]
     simp -dsimp only [Vm.G, zA, zB, zC, zD, zE, zF, q107.1]
     exact hq2 rfl
 · rw [hf] at hq2
   simp -dsimp only [Vm.G, zA, zB, zC, zD, zE, zF, q107.1]
   refine call_one (S := rDocOfSpec) rfl _ GaL.rfl ⟨key, [], by omega, by simp, rfl, fun d hd => ?_, fun hd => ?_⟩
   · rw [docOf_nil] at hd; cases hd
   · simp only [dcCells, Dc.zero]
     simp -dsimp only [Vm.G, zA, zB, zC, zD, zE, zF, q107.1]
     exact hq2 rfl
def rDocsSetSpec : Vm.Spec := fun args h Q => ∃ (R : RId) (f : Fun) (id i : Int) (x : Dl), I64 id ∧ I64 i ∧ x.ok ∧ args = [.ptr R.iv 0, .v (.int .i64 id), .v (.int .i64 i), dlAv x] ∧ isRef h R f ∧ f.n ≤ 536870912 ∧
 ∀ h', isRef h' R (docsSet f id i x).1 → Same h h' (rFoot R) → Q (.v (.int .i64 (docsSet f id i x).2)) h'
theorem does_rDocsSet : Does Tryz.prog 110 rDocsSetSpec := by
 refine dA (good_cons does_rDocsGet (good_cons does_rDl (good_cons does_rSet good_nil))) Tryz.func110 rfl (by decide +kernel) ?_
 rintro args h Q ⟨R, f, id, i, x, hid, hii, hx, rfl, hR, hfn, hq⟩
 refine ⟨by simp [Tryz.f110], ?_⟩
 unfold docsSet at hq
 simp only [dlAv, dlCells]
 simp -dsimp only [Vm.G, zA, zB, zC, zD, zE, zF, q110.1]
 refine call_one (S := rDocsGetSpec) rfl _ GaL.rfl ⟨R, f, id, rfl, hR, hfn, fun d l hd hl6 hdl => ?_, fun hd => ?_⟩
 · rw [hd] at hq
   simp only [dcCells] at hq ⊢
   simp -dsimp only [Vm.G, zA, zB, zC, zD, zE, zF, q110.1]
   have hd1 := zIa (decide (i < 0))
   rcases hd1 with c1 | c1
   · have d1 := of_decide_eq_true c1
     rw [if_neg (by omega)] at hq
     simp -dsimp only [Vm.G, zA, zB, zC, zD, zE, zF, q110.1, c1]
     exact hq h hR (.refl _ _)
   · have d1 := of_decide_eq_false c1
     have hd2 := zIa (decide (i ≥ (l.length : Int)))
     rcases hd2 with c2 | c2
     · have d2 := of_decide_eq_true c2
       rw [if_neg (by omega)] at hq
       simp -dsimp only [Vm.G, zA, zB, zC, zD, zE, zF, q110.1, c1, c2, zJa]
       exact hq h hR (.refl _ _)
     · have d2 := of_decide_eq_false c2
       rw [if_pos (by omega)] at hq
       simp -dsimp only [Vm.G, zA, zB, zC, zD, zE, zF, q110.1, c1, c2, zJa]
       refine call_one (S := rdlSpec) rfl _ GaL.rfl ⟨id, i, x, hid, hii, hx, rfl, ?_⟩
       simp -dsimp only [Vm.G, zA, zB, zC, zD, zE, zF, q110.1]
       refine call_one (S := rSetSpec) rfl _ GaL.rfl ⟨R, f, (dlK id i, dlV x), rfl, hR, hfn, fun h2 g1 g2 => ?_⟩
       rw [if_pos (right_dl id i x)] at g1
       simp -dsimp only [Vm.G, zA, zB, zC, zD, zE, zF, q110.1]
       exact hq h2 g1 g2
 · rw [hd] at hq
   simp only [dcCells, Dc.zero] at hq ⊢
   simp -dsimp only [Vm.G, zA, zB, zC, zD, zE, zF, q110.1]
   exact hq h hR (.refl _ _)
theorem openD_ref (x : Dl) : w64 (w64 (x.orig - x.liq) - x.can) = openD x := by
 unfold openD
 have h1 : w64 (w64 (x.orig - x.liq) - x.can) = w64 (w64 (x.orig - x.liq) + -x.can) := rfl
 have h2 : ∀ a b : Int, w64 (w64 a + b) = w64 (a + b) := fun a b => by
   show IntKind.i64.wrap _ = IntKind.i64.wrap _
   rw [wrap_i64_toInt, wrap_i64_toInt]
   congr 1
   show BitVec.ofInt 64 (IntKind.i64.wrap a + b) = _
   rw [wrap_i64_toInt, BitVec.ofInt_add, BitVec.ofInt_toInt, ← BitVec.ofInt_add]
 have h3 : w64 (x.orig - w64 (x.liq + x.can)) = w64 (x.orig - (x.liq + x.can)) := by
   show IntKind.i64.wrap _ = IntKind.i64.wrap _
   rw [wrap_i64_toInt, wrap_i64_toInt]
   congr 1
   show BitVec.ofInt 64 (x.orig - IntKind.i64.wrap (x.liq + x.can)) = _
   rw [wrap_i64_toInt, Int.sub_eq_add_neg, Int.sub_eq_add_neg, BitVec.ofInt_add (x := x.orig), BitVec.ofInt_add (x := x.orig), BitVec.ofInt_neg, BitVec.ofInt_neg, BitVec.ofInt_toInt]
 rw [h1, h2, h3]
 congr 1; omega
theorem does_rDocsOpen : Does Tryz.prog 108 openDSpec := by
 refine dA good_nil Tryz.func108 rfl (by decide +kernel) ?_
 rintro args h Q ⟨x, rfl, hq⟩
 refine ⟨by simp [Tryz.f108], ?_⟩
 rw [← openD_ref] at hq
 simp only [dlAv, dlCells]
 simp -dsimp only [Vm.G, zA, zB, zC, zD, zE, zF, q108.1]
 exact hq
def rDocsPutSpec : Vm.Spec := fun args h Q => ∃ (R : RId) (f : Fun) (d : Dc) (l : List Dl), d.ok ∧ (∀ x ∈ l, x.ok) ∧ args = [.ptr R.iv 0, .agg (dcCells d), .sl 4 (l.map dlAv)] ∧ isRef h R f ∧ f.n ≤ 536870900 ∧
 ∀ h', isRef h' R (docsPut f d l).1 → Same h h' (rFoot R) → Q (.tup [.v (.int .i64 (docsPut f d l).2.1), .v (.int .i64 (docsPut f d l).2.2)]) h'
theorem does_rDocsPut : Does Tryz.prog 118 rDocsPutSpec := by
 refine dA (good_cons does_rNext (good_cons does_rDl (good_cons does_rSet (good_cons does_rDc good_nil)))) Tryz.func118 rfl (by decide +kernel) ?_
 rintro args h Q ⟨R, f, d, l, hd, hx, rfl, hR, hfn, hq⟩
 refine ⟨by simp [Tryz.f118], ?_⟩
 unfold docsPut at hq
 simp only [dcCells]
 simp -dsimp only [Vm.G, zA, zB, zC, zD, zE, zF, q118.1]
 have hd0 := zIa (decide ((l.length : Int) < 1))
 rcases hd0 with c0 | c0
 · have d0 := of_decide_eq_true c0
   simp only [if_pos (show l.length = 0 ∨ 6 < l.length from .inl (by omega))] at hq
   simp -dsimp only [Vm.G, zA, zB, zC, zD, zE, zF, q118.1, c0]
   exact hq h hR (.refl _ _)
 · have d0 := of_decide_eq_false c0
   have hd6 := zIa (decide ((l.length : Int) > 6))
   rcases hd6 with c6 | c6
   · have d6 := of_decide_eq_true c6
     simp only [if_pos (show l.length = 0 ∨ 6 < l.length from .inr (by omega))] at hq
     simp -dsimp only [Vm.G, zA, zB, zC, zD, zE, zF, q118.1, c0, c6]
     exact hq h hR (.refl _ _)
   · have d6 := of_decide_eq_false c6
     have hr := readOf_range f (seqKey 2)
     simp only [if_neg (show ¬ (l.length = 0 ∨ 6 < l.length) by omega)] at hq
     simp -dsimp only [Vm.G, zA, zB, zC, zD, zE, zF, q118.1, c0, c6]
     refine call_one (S := rNextSpec) rfl _ GaL.rfl ⟨R, f, 2, rfl, hR, by omega, fun hr => ?_, fun hn h1 g1 g2 => ?_⟩
     · simp only [if_pos hr] at hq
       simp -dsimp only [Vm.G, zA, zB, zC, zD, zE, zF, q118.1]
       exact hq h hR (.refl _ _)
     · simp only [if_neg hn] at hq
       unfold docsF at hq
       have hidr : I64 (readOf f (seqKey 2) + 1) := by unfold I64 at hr ⊢; omega
       have hf1 : (upd f (seqKey 2) (some (be 8 (readOf f (seqKey 2) + 1)))).n = f.n + 1 := rfl
       generalize readOf f (seqKey 2) + 1 = id at hq g1 hidr hf1 ⊢
       generalize upd f (seqKey 2) (some (be 8 id)) = f1 at hq g1 hf1
       simp -dsimp only [Vm.G, zA, zB, zC, zD, zE, zF, q118.1]
       refine awp_loop (fun m s h' => ∃ (i : Nat) (g : Fun), i + m = l.length ∧ isRef h' R g ∧ g.n ≤ f.n + 1 + i ∧ Same h h' (rFoot R) ∧ putLines id i (l.drop i) g = putLines id 0 l f1 ∧ s = mk [(0, .ptr R.iv 0), (2, .sl 4 (l.map dlAv)), (4, .box [.v (.int .i64 d.id), .v (.int .i64 d.kind), .v (.int .i64 d.year), .v (.int .i64 d.frm), .v (.int .i64 d.lines)]), (8, .v (.int .i64 id)), (10, .v (.int .i64 (i : Nat)))])
         l.length _ (le_mk _ ?_) ⟨0, f1, by omega, g1, by omega, g2, rfl, rfl⟩ ?_
       · simp only [Vm.D]
         try simp -dsimp only [Vm.G, zA, zB, zC, zD, zE, zF, q118.1]
         repeat' first | exact .refl _ | exact .nil _ _ _ (by decide) | refine ⟨?_, ?_⟩
       · clear g1 g2 hR
         rintro m s h' ⟨i, g, hi, hR, hgn, hsm, hp, rfl⟩
         simp -dsimp only [Vm.G, zA, zB, zC, zD, zE, zF, q118.1]
         refine cond_intro (fun hcc => ?_) (fun hcc => ?_)
         · have hlt : i < l.length := by have := of_decide_eq_true hcc; omega
           have hw := hwN i (by omega)
           have hok := hx l[i] (zMa hlt)
           rw [zIb hlt] at hp
           simp -dsimp only [Vm.G, zA, zB, zC, zD, zE, zF, q118.1]
           refine idx_map dlAv l i hlt ?_
           generalize l[i] = x at hok hp
           have hii : I64 (i : Int) := by unfold I64; omega
           have hun : (upd g (dlK id i) (some (dlV x))).n = g.n + 1 := rfl
           simp only [dlAv, dlCells]
           simp -dsimp only [Vm.G, zA, zB, zC, zD, zE, zF, q118.1, AV.cells]
           refine call_one (S := rdlSpec) rfl _ GaL.rfl ⟨id, i, x, hidr, hii, hok, rfl, ?_⟩
           simp -dsimp only [Vm.G, zA, zB, zC, zD, zE, zF, q118.1]
           refine call_one (S := rSetSpec) rfl _ GaL.rfl ⟨R, g, (dlK id i, dlV x), rfl, hR, by omega, fun h2 g1 g2 => ?_⟩
           rw [if_pos (right_dl id i x)] at g1
           simp -dsimp only [Vm.G, zA, zB, zC, zD, zE, zF, q118.1]
           refine kept_intro ⟨l.length - (i + 1), by omega, _, le_mk [(0, .ptr R.iv 0), (2, .sl 4 (l.map dlAv)), (4, .box [.v (.int .i64 d.id), .v (.int .i64 d.kind), .v (.int .i64 d.year), .v (.int .i64 d.frm), .v (.int .i64 d.lines)]), (8, .v (.int .i64 id)), (10, .v (.int .i64 (i + 1 : Nat)))] ?_, i + 1, _, by omega, g1, by show (upd g (dlK id i) (some (dlV x))).n ≤ f.n + 1 + (i + 1); omega, hsm.trans g2, hp, rfl⟩
           simp only [Vm.D, hw]
           try simp -dsimp only [Vm.G, zA, zB, zC, zD, zE, zF, q118.1, hw]
           repeat' first | exact .refl _ | exact .nil _ _ _ (by decide) | refine ⟨?_, ?_⟩
         · have hge : ¬ i < l.length := by have := of_decide_eq_false hcc; omega
           rw [List.drop_of_length_le (by omega)] at hp
           have hp : g = putLines id 0 l f1 := hp
           rw [← hp] at hq
           obtain ⟨o1, o2, o3, o4, o5⟩ := hd
           have hdok : ({ d with id := id, lines := (l.length : Int) } : Dc).ok := ⟨hidr, o2, o3, o4, by unfold I64; show -9223372036854775808 ≤ (l.length : Int) ∧ (l.length : Int) ≤ _; omega⟩
           simp -dsimp only [Vm.G, zA, zB, zC, zD, zE, zF, q118.1]
           refine call_one (S := rdcSpec) rfl _ GaL.rfl ⟨{ d with id := id, lines := l.length }, hdok, rfl, ?_⟩
           simp -dsimp only [Vm.G, zA, zB, zC, zD, zE, zF, q118.1]
           refine call_one (S := rSetSpec) rfl _ GaL.rfl ⟨R, g, (dcK id, dcV { d with id := id, lines := l.length }), rfl, hR, by omega, fun h2 g1 g2 => ?_⟩
           rw [if_pos (right_dc id _)] at g1
           simp -dsimp only [Vm.G, zA, zB, zC, zD, zE, zF, q118.1]
           exact hq h2 g1 (hsm.trans g2)
theorem chargeRun_n (c : Chg) : ∀ (l : List Nd) (f : Fun) (w : Bool), (chargeRun c l f w).1.n ≤ f.n + l.length
 | [], f, w => zNb _
 | n :: r, f, w => by
   unfold chargeRun
   split
   · exact zXa _ _
   · have := chargeRun_n c r (upd f (ndK (atOf c n).1) (some (ndV (atOf c n).1))) (w || (atOf c n).2.1)
     have e : (upd f (ndK (atOf c n).1) (some (ndV (atOf c n).1))).n = f.n + 1 := rfl
     rw [e] at this
     rw [zOa]; omega
theorem chargeOf_n (f : Fun) (year id : Int) (c : Chg) : (chargeOf f year id c).1.n ≤ f.n + 8 := by
 unfold chargeOf
 split
 · exact zXa _ _
 · split
   · exact zXa _ _
   · have := chargeRun_n c (pathOf f year 8 id) f false
     have := pathOf_length f year 8 id
     omega
def chargeG (mk : Dl → Chg) (year : Int) : List Dl → Fun → Bool → Fun × Bool × Int
 | [], f, w => (f, w, 0)
 | x :: r, f, w => if (chargeOf f year x.node (mk x)).2.2 ≠ 0 then ((chargeOf f year x.node (mk x)).1, false, (chargeOf f year x.node (mk x)).2.2)
   else chargeG mk year r (chargeOf f year x.node (mk x)).1 (w || (chargeOf f year x.node (mk x)).2.1)
theorem chargeG_cons (mk : Dl → Chg) (year : Int) (x : Dl) (r : List Dl) (f : Fun) (w : Bool) : chargeG mk year (x :: r) f w = if (chargeOf f year x.node (mk x)).2.2 ≠ 0 then ((chargeOf f year x.node (mk x)).1, false, (chargeOf f year x.node (mk x)).2.2)
   else chargeG mk year r (chargeOf f year x.node (mk x)).1 (w || (chargeOf f year x.node (mk x)).2.1) := rfl
theorem chargeL_G (year : Int) : ∀ (l : List Dl) (f : Fun) (w : Bool), chargeL year l f w = chargeG (fun x => ⟨x.orig, 0, 0⟩) year l f w
 | [], _, _ => rfl
 | x :: r, f, w => by
   rw [chargeL_cons, chargeG_cons, chargeL_G year r]
theorem chargeG_congr {mk mk' : Dl → Chg} (year : Int) : ∀ (l : List Dl) (f : Fun) (w : Bool), (∀ x ∈ l, mk x = mk' x) → chargeG mk year l f w = chargeG mk' year l f w
 | [], _, _, _ => rfl
 | x :: r, f, w, h => by
   rw [chargeG_cons, chargeG_cons, h x (List.mem_cons_self ..), chargeG_congr year r _ _ fun y hy => h y (zLb _ hy)]
theorem chargeG_n (mk : Dl → Chg) (year : Int) : ∀ (l : List Dl) (f : Fun) (w : Bool), (chargeG mk year l f w).1.n ≤ f.n + 8 * l.length
 | [], f, w => zNb _
 | x :: r, f, w => by
   have h1 := chargeOf_n f year x.node (mk x)
   rw [chargeG_cons]
   split
   · show (chargeOf f year x.node (mk x)).1.n ≤ _
     rw [zOa]; omega
   · have := chargeG_n mk year r (chargeOf f year x.node (mk x)).1 (w || (chargeOf f year x.node (mk x)).2.1)
     rw [zOa]; omega
theorem putLines_bound (id : Int) : ∀ (l : List Dl) (i : Nat) (f : Fun), (putLines id i l f).n = f.n + l.length
 | [], _, _ => rfl
 | x :: r, i, f => by
   show (putLines id (i + 1) r (upd f (dlK id i) (some (dlV x)))).n = _
   rw [putLines_bound id r (i + 1)]
   show f.n + 1 + r.length = f.n + (r.length + 1)
   omega
theorem docsPut_n (f : Fun) (d : Dc) (l : List Dl) : (docsPut f d l).1.n ≤ f.n + 8 := by
 unfold docsPut
 split
 · exact zXa _ _
 · split
   · exact zXa _ _
   · show (putLines _ 0 l (upd f (seqKey 2) _)).n + 1 ≤ _
     rw [putLines_bound]
     show f.n + 1 + l.length + 1 ≤ _
     omega
theorem preCheck_len {l : List Ln} (h : ¬ preCheck l ≠ 0) : l.length ≤ 6 := by
 unfold preCheck at h
 split at h
 · simp at h
 · rename_i h2; omega
theorem ownL_length (l : List Ln) : (ownL l).length = l.length := by unfold ownL; rw [zJa]
theorem preNew_n (f : Fun) (year : Int) (l : List Ln) : (preNew f year l).1.n ≤ f.n + 56 := by
 unfold preNew
 split
 · exact zXa _ _
 · split
   · exact zXa _ _
   · rename_i h1 h2
     have hl := preCheck_len h2
     have hc := chargeG_n (fun x => ⟨x.orig, 0, 0⟩) year (ownL l) f false
     rw [← chargeL_G, ownL_length] at hc
     split
     · show (chargeL year (ownL l) f false).1.n ≤ _
       omega
     · have hp := docsPut_n (chargeL year (ownL l) f false).1 ⟨0, 1, year, 0, 0⟩ (ownL l)
       show (docsPut (chargeL year (ownL l) f false).1 ⟨0, 1, year, 0, 0⟩ (ownL l)).1.n ≤ _
       omega
theorem lineOf_ok {key val : List UInt8} {n : Dl} (h : lineOf key val = some n) : n.ok := by
 unfold lineOf at h
 cases hl : numsPair 76 2 4 key val with
 | none => rw [hl] at h; cases h
 | some l =>
   rw [hl] at h
   cases h
   have := numsPair_i64 hl
   exact ⟨i64_getD this 2, i64_getD this 3, i64_getD this 4, i64_getD this 5⟩
theorem lineAt_ok {f : Fun} {id i : Int} {x : Dl} (h : lineAt f id i = some x) : x.ok := by
 unfold lineAt at h
 cases h1 : f (dlK id i) with
 | none => rw [h1] at h; cases h
 | some v => rw [h1, zKa] at h; exact lineOf_ok h
theorem linesAt_ok {f : Fun} {id : Int} : ∀ {n : Nat} {l : List Dl}, linesAt f id n = some l → ∀ x ∈ l, x.ok
 | 0, l, h => by cases h; simp
 | n + 1, l, h => by
   unfold linesAt at h
   cases h1 : linesAt f id n with
   | none => rw [h1] at h; cases h
   | some l1 =>
     rw [h1] at h
     cases h2 : lineAt f id n with
     | none => rw [zKa, h2] at h; cases h
     | some x =>
       rw [zKa, h2] at h
       cases h
       intro y hy
       rcases zWa.1 hy with hy | hy
       · exact linesAt_ok h1 y hy
       · rw [zYa] at hy; subst hy; exact lineAt_ok h2
theorem docAt_ok {f : Fun} {id : Int} {d : Dc} {l : List Dl} (h : docAt f id = some (d, l)) : ∀ x ∈ l, x.ok := by
 unfold docAt at h
 cases h1 : docHead f id with
 | none => rw [h1] at h; cases h
 | some d1 =>
   rw [h1, zKa] at h
   cases h2 : linesAt f id d1.lines.toNat with
   | none => rw [h2] at h; cases h
   | some l1 =>
     rw [h2] at h
     cases h
     exact linesAt_ok h2
theorem Dl.zero_ok : Dl.zero.ok := by simp [Dl.ok, Dl.zero, I64]
theorem nodeOf_clamp {y i : Int} {v : List UInt8} {n : Nd} (h : nodeOf (keyOf 78 [y, i]) v = some n) : n.year = clampK y ∧ n.id = clampK i := by
 unfold nodeOf numsPair at h
 rw [splitOf_key 78 [y, i] (by simp)] at h
 simp only [zTa, zKb] at h
 split at h
 · cases h; exact ⟨rfl, rfl⟩
 · cases h
theorem nodeAt_some {f : Fun} {y i : Int} {n : Nd} (h : nodeAt f y i = some n) : n.year = y ∧ n.id = i ∧ InR y ∧ InR i ∧ ∃ v, f (ndK n) = some v ∧ nodeOf (ndK n) v = some n := by
 unfold nodeAt at h
 split at h
 · cases h
 · rename_i v hv
   split at h
   · rename_i m hm
     split at h
     · rename_i hc
       cases h
       obtain ⟨h1, h2⟩ := nodeOf_clamp hm
       have e : ndK n = keyOf 78 [y, i] := by unfold ndK ndKey; rw [hc.1, hc.2]
       have r1 := clampK_range y
       have r2 := clampK_range i
       rw [← h1, hc.1] at r1
       rw [← h2, hc.2] at r2
       exact ⟨hc.1, hc.2, r1, r2, v, by rw [e]; exact hv, by rw [e]; exact hm⟩
     · cases h
   · cases h
theorem pathOf_at (f : Fun) (y : Int) : ∀ (k : Nat) (i : Int), ∀ n ∈ pathOf f y k i, nodeAt f y n.id = some n
 | 0, i, n, hn => by simp [pathOf] at hn
 | k + 1, i, n, hn => by
   simp only [pathOf] at hn
   split at hn
   · cases hn
   · rename_i m hm
     rcases zQa.1 hn with rfl | hn
     · have := (nodeAt_some hm).2.1
       rw [this]; exact hm
     · split at hn
       · cases hn
       · exact pathOf_at f y k _ n hn
theorem run_done (c : Chg) : ∀ (p : List Nd) (f : Fun) (w : Bool), (chargeRun c p f w).2.2 = 0 →
   (∀ n ∈ p, (atOf c n).2.2 = 0 ∧ ((atOf c n).2.1 = true → (chargeRun c p f w).2.1 = true)) ∧ (w = true → (chargeRun c p f w).2.1 = true) ∧
     ∀ k, (∃ n ∈ p, k = ndK n ∧ (chargeRun c p f w).1 k = some (ndV (addC c n))) ∨ ((∀ n ∈ p, k ≠ ndK n) ∧ (chargeRun c p f w).1 k = f k)
 | [], f, w, _ => ⟨by simp, fun h => h, fun k => .inr ⟨by simp, rfl⟩⟩
 | n :: r, f, w, h => by
   unfold chargeRun at h ⊢
   by_cases he : (atOf c n).2.2 ≠ 0
   · rw [if_pos he] at h
     exact absurd h he
   · rw [if_neg he] at h ⊢
     have he0 : (atOf c n).2.2 = 0 := by simpa using he
     have ha : (atOf c n).1 = addC c n := by
       revert he0
       unfold atOf
       repeat' split
       all_goals intro h9; first | rfl | (exfalso; simp at h9)
     obtain ⟨i1, i2, i3⟩ := run_done c r _ _ h
     rw [ha] at h i1 i2 i3 ⊢
     refine ⟨fun m hm => ?_, fun hw => i2 (by rw [hw]; rfl), fun k => ?_⟩
     · rcases zQa.1 hm with rfl | hm
       · exact ⟨he0, fun ht => i2 (by rw [ht]; cases w <;> rfl)⟩
       · exact i1 m hm
     · rcases i3 k with ⟨m, hm, e1, e2⟩ | ⟨e1, e2⟩
       · exact .inl ⟨m, zLb _ hm, e1, e2⟩
       · by_cases hk : k = ndK n
         · refine .inl ⟨n, List.mem_cons_self .., hk, ?_⟩
           rw [e2, upd_app, if_pos]
           rw [hk]; rfl
         · refine .inr ⟨fun m hm => ?_, ?_⟩
           · rcases zQa.1 hm with rfl | hm
             · exact hk
             · exact e1 m hm
           · rw [e2, upd_app, if_neg]
             intro e; exact hk e
def ChgRel (c : Chg) (w : Bool) (n n' : Nd) : Prop := n' = n ∨ (n' = addC c n ∧ (atOf c n).2.2 = 0 ∧ ((atOf c n).2.1 = true → w = true))
inductive All2 (R : Nd → Nd → Prop) : List Nd → List Nd → Prop
 | nil : All2 R [] []
 | cons {a b : Nd} {l l' : List Nd} (h : R a b) (t : All2 R l l') : All2 R (a :: l) (b :: l')
theorem All2.len {R : Nd → Nd → Prop} : ∀ {l l' : List Nd}, All2 R l l' → l.length = l'.length
 | _, _, .nil => rfl
 | _, _, .cons _ t => by rw [zOa, zOa, t.len]
theorem All2.get {R : Nd → Nd → Prop} : ∀ {l l' : List Nd}, All2 R l l' → ∀ (i : Nat) (h1 : i < l.length) (h2 : i < l'.length), R l[i] l'[i]
 | _, _, .cons h _, 0, _, _ => h
 | _, _, .cons _ t, i + 1, h1, h2 => t.get i (by simpa using h1) (by simpa using h2)
theorem figure_iff (n : Int) : figureP n = true ↔ 0 ≤ n ∧ n ≤ 1152921504606846976 := by simp [figureP]
theorem small_iff (n : Int) : smallP n = true ↔ -1152921504606846976 ≤ n ∧ n ≤ 1152921504606846976 := by simp [smallP]
theorem within_iff (n : Int) : withinP n = true ↔ -9007199254740992 ≤ n ∧ n ≤ 9007199254740992 := by simp [withinP]
theorem figs_iff (n : Nd) : figs n = true ↔ (0 ≤ n.pre ∧ n.pre ≤ 1152921504606846976) ∧ (0 ≤ n.enc ∧ n.enc ≤ 1152921504606846976) ∧ (0 ≤ n.exp ∧ n.exp ≤ 1152921504606846976) := by
 unfold figs
 rw [zSa, zSa, figure_iff, figure_iff, figure_iff, and_assoc]
theorem w64_id {n : Int} (h1 : -9223372036854775808 ≤ n) (h2 : n ≤ 9223372036854775807) : w64 n = n := wrap_i64 h1 h2
theorem used_figs {n : Nd} (h : figs n = true) : usedOf n = n.pre + n.enc + n.exp := by
 rw [figs_iff] at h
 unfold usedOf
 rw [w64_id (n := n.pre + n.enc) (by omega) (by omega), w64_id (by omega) (by omega)]
theorem chgRight_iff (c : Chg) : chgRight c = true ↔ (-9007199254740992 ≤ c.pre ∧ c.pre ≤ 9007199254740992) ∧ (-9007199254740992 ≤ c.enc ∧ c.enc ≤ 9007199254740992) ∧ (-9007199254740992 ≤ c.exp ∧ c.exp ≤ 9007199254740992) := by
 unfold chgRight
 rw [zSa, zSa, within_iff, within_iff, within_iff, and_assoc]
theorem sum_right {c : Chg} (h : chgRight c = true) : chgSum c = c.pre + c.enc + c.exp := by
 rw [chgRight_iff] at h
 unfold chgSum
 rw [w64_id (n := c.pre + c.enc) (by omega) (by omega), w64_id (by omega) (by omega)]
theorem addC_figs {c : Chg} {n : Nd} (hc : chgRight c = true) (hn : figs n = true) : (addC c n).pre = n.pre + c.pre ∧ (addC c n).enc = n.enc + c.enc ∧ (addC c n).exp = n.exp + c.exp := by
 rw [chgRight_iff] at hc
 rw [figs_iff] at hn
 refine ⟨?_, ?_, ?_⟩
 · exact w64_id (by omega) (by omega)
 · exact w64_id (by omega) (by omega)
 · exact w64_id (by omega) (by omega)
theorem at_done {c : Chg} {n : Nd} (h : (atOf c n).2.2 = 0) : figs n = true ∧ figs (addC c n) = true ∧ (allowsOf n (chgSum c)).1 = true ∧ (atOf c n).2.1 = (allowsOf n (chgSum c)).2 := by
 revert h
 unfold atOf
 by_cases h1 : figs n = false
 · rw [if_pos h1]; intro h; simp at h
 · rw [if_neg h1]
   by_cases h2 : figs (addC c n) = false
   · rw [if_pos h2]; intro h; simp at h
   · rw [if_neg h2]
     by_cases h3 : (allowsOf n (chgSum c)).1 = false
     · rw [if_pos h3]; intro h; simp at h
     · rw [if_neg h3]
       intro _
       exact ⟨by simpa using h1, by simpa using h2, by simpa using h3, rfl⟩
theorem beyond_warned {c : Chg} {w : Bool} {n n' : Nd} (hc : chgRight c = true) (h : ChgRel c w n n') (hb : usedOf n' > n'.limit) (hn : ¬ usedOf n > n.limit) : n'.abs = false ∧ w = true := by
 rcases h with rfl | ⟨rfl, h1, h2⟩
 · exact absurd hb hn
 · obtain ⟨f1, f2, f3, f4⟩ := at_done h1
   have u1 := used_figs f1
   have u2 := used_figs f2
   obtain ⟨a1, a2, a3⟩ := addC_figs hc f1
   rw [f4] at h2
   have hs := sum_right hc
   have hl : (addC c n).limit = n.limit := rfl
   rw [hl] at hb
   rw [a1, a2, a3] at u2
   rw [figs_iff] at f1
   rw [chgRight_iff] at hc
   unfold allowsOf at f3 h2
   rw [hs] at f3 h2
   split at f3
   · simp at f3
   · rename_i c1
     rw [if_neg c1] at h2
     split at f3
     · rename_i c2
       have c1' : ¬ (c.pre + c.enc + c.exp > 1152921504606846976) ∧ (smallP (usedOf n) = true ∧ smallP n.limit = true) := by
         refine ⟨fun h => c1 (.inl h), ?_⟩
         exact Classical.byContradiction fun h => c1 (.inr h)
       obtain ⟨-, c3, c4⟩ := c1'
       rw [small_iff] at c3 c4
       rcases c2 with c2 | c2
       · omega
       · rw [w64_id (by omega) (by omega)] at c2
         omega
     · rename_i c2
       rw [if_neg c2] at h2
       have ha : n.abs = false := by simpa using f3
       exact ⟨ha, h2 (by rw [ha]; rfl)⟩
theorem lineOf_put {x : Dl} (hx : x.ok) {id i : Int} (h1 : InR id) (h2 : InR i) : lineOf (dlK id i) (dlV x) = some x := by
 obtain ⟨o1, o2, o3, o4⟩ := hx
 have hv : dlV x = packs 8 [x.node, x.orig, x.liq, x.can] := rfl
 have hn : numsOf (packs 8 [x.node, x.orig, x.liq, x.can]) 4 = [x.node, x.orig, x.liq, x.can] := numsOf_packs [x.node, x.orig, x.liq, x.can] fun y hy => by
   simp only [zQa, List.not_mem_nil, or_false] at hy
   rcases hy with rfl | rfl | rfl | rfl <;> assumption
 unfold lineOf numsPair
 rw [dlK, splitOf_key 76 [id, i] (by simp)]
 have hk : ([id, i] : List Int).map clampK = [id, i] := by simp [clampK_id h1.1 h1.2, clampK_id h2.1 h2.2]
 simp only [hk]
 rw [if_pos ⟨trivial, rfl, dlV_length x⟩, hv, hn]
 rfl
theorem putLines_other (id : Int) : ∀ (l : List Dl) (i : Nat) (f : Fun) (k : List UInt8), (∀ j, j < l.length → k ≠ dlK id ((i + j : Nat) : Int)) → putLines id i l f k = f k
 | [], _, _, _, _ => rfl
 | x :: r, i, f, k, h => by
   have h0 := h 0 (by simp)
   show putLines id (i + 1) r (upd f (dlK id i) (some (dlV x))) k = f k
   rw [putLines_other id r (i + 1) _ k fun j hj => by
     have := h (j + 1) (by simpa using hj)
     rwa [show i + (j + 1) = i + 1 + j by omega] at this]
   rw [upd_app, if_neg (by simpa using h0)]
theorem pre_head {t : UInt8} {l : List Int} {k : List UInt8} (h : (keyOf t l).isPrefixOf k = true) : ∃ r, k = t :: r := by
 unfold keyOf at h
 cases k with
 | nil => simp at h
 | cons a r =>
   simp only [List.isPrefixOf, zSa, beq_iff_eq] at h
   exact ⟨r, by rw [h.1]⟩
theorem docsF_other (f : Fun) (id : Int) (d : Dc) (l : List Dl) {k : List UInt8} (h1 : k ≠ dcK id) (h2 : ∀ j : Int, k ≠ dlK id j) (h3 : k ≠ seqKey 2) : docsF f id d l k = f k := by
 unfold docsF
 rw [upd_app, if_neg h1, putLines_other id l 0 _ k fun j _ => h2 _, upd_app, if_neg h3]
theorem docsF_node (f : Fun) (id : Int) (d : Dc) (l : List Dl) {y : Int} {k : List UInt8} (h : (keyOf 78 [y]).isPrefixOf k = true) : docsF f id d l k = f k := by
 obtain ⟨r, rfl⟩ := pre_head h
 have ne : ∀ {t : UInt8} {a : List Int}, t ≠ 78 → (78 :: r : List UInt8) ≠ keyOf t a := fun ht e => ht (List.cons.inj e).1.symm
 exact docsF_other f id d l (ne (by decide)) (fun j => ne (by decide)) (ne (by decide))
theorem upd_node (f : Fun) {q : List UInt8} {v : Option (List UInt8)} {t : UInt8} {a : List Int} (hq : q = keyOf t a) (ht : t ≠ 78) {y : Int} {k : List UInt8} (h : (keyOf 78 [y]).isPrefixOf k = true) : upd f q v k = f k := by
 obtain ⟨r, rfl⟩ := pre_head h
 rw [upd_app, if_neg]
 rw [hq]
 exact fun e => ht (List.cons.inj e).1.symm
theorem chargeOf_other {f : Fun} {y i : Int} {c : Chg} (he : (chargeOf f y i c).2.2 = 0) {k : List UInt8} (hk : ∀ m : Nd, k ≠ ndK m) : (chargeOf f y i c).1 k = f k := by
 unfold chargeOf at he ⊢
 split
 · rfl
 · rename_i h0
   rw [if_neg h0] at he
   split
   · rfl
   · rename_i h1
     rw [if_neg h1] at he
     obtain ⟨-, -, i3⟩ := run_done c _ f false he
     rcases i3 k with ⟨n, -, e, -⟩ | ⟨-, e⟩
     · exact absurd e (hk n)
     · exact e
theorem readOf_congr {f g : Fun} {k : List UInt8} (h : f k = g k) : readOf f k = readOf g k := by unfold readOf; rw [h]
theorem checkY_congr {f g : Fun} {y : Int} (h : f (yrK y) = g (yrK y)) : checkY f y = checkY g y := by unfold checkY stateOf; rw [readOf_congr h]
end Go.Proofs.Lx
namespace Go.Proofs.Lx
open Go.Vm
def NodesAre (y : Int) (N : List Nd) (f : Fun) : Prop := (N.map (·.id)).Nodup ∧ (∀ n ∈ N, n.year = y ∧ InR n.id ∧ n.ok) ∧
 (∀ q v, f q = some v → (keyOf 78 [y]).isPrefixOf q = true → ∃ n ∈ N, q = ndK n ∧ v = ndV n) ∧ ∀ n ∈ N, f (ndK n) = some (ndV n)
theorem nd_pre (y i : Int) : (keyOf 78 [y]).isPrefixOf (keyOf 78 [y, i]) = true := by
 rw [List.isPrefixOf_iff_prefix]
 exact ⟨be 4 (clampK i), by simp [keyOf, packs]⟩
theorem ndK_y {n : Nd} {y : Int} (h : n.year = y) : ndK n = keyOf 78 [y, n.id] := by unfold ndK ndKey; rw [h]
theorem ids_same {N : List Nd} (h : (N.map (·.id)).Nodup) {a b : Nd} (ha : a ∈ N) (hb : b ∈ N) (e : a.id = b.id) : a = b := by
 induction N with
 | nil => cases ha
 | cons x r ih =>
   rw [zTa, List.nodup_cons] at h
   rcases zQa.1 ha with ea | ha2
   · rcases zQa.1 hb with eb | hb2
     · rw [ea, eb]
     · exact absurd (zLa.2 ⟨b, hb2, by rw [← e, ea]⟩) h.1
   · rcases zQa.1 hb with eb | hb2
     · exact absurd (zLa.2 ⟨a, ha2, by rw [e, eb]⟩) h.1
     · exact ih h.2 ha2 hb2
theorem nodes_at {y : Int} {N : List Nd} {f : Fun} (hy : InR y) (h : NodesAre y N f) {i : Int} {n : Nd} : nodeAt f y i = some n ↔ n ∈ N ∧ n.id = i := by
 constructor
 · intro hn
   obtain ⟨a1, a2, a3, a4, v, a5, a6⟩ := nodeAt_some hn
   have hk := ndK_y a1
   obtain ⟨m, hm, e1, e2⟩ := h.2.2.1 _ _ a5 (by rw [hk]; exact nd_pre y n.id)
   obtain ⟨b1, b2, b3⟩ := h.2.1 m hm
   have hmn : n = m := by
     rw [e1, e2, nodeOf_put b3 (by rw [b1]; exact hy) b2] at a6
     exact (Option.some.inj a6).symm
   subst hmn
   exact ⟨hm, a2⟩
 · rintro ⟨hm, rfl⟩
   obtain ⟨b1, b2, b3⟩ := h.2.1 n hm
   have hf := h.2.2.2 n hm
   unfold nodeAt
   rw [← ndK_y b1, hf]
   simp only
   rw [nodeOf_put b3 (by rw [b1]; exact hy) b2]
   simp only
   rw [if_pos ⟨b1, trivial⟩]
theorem nodes_none {y : Int} {N : List Nd} {f : Fun} (hy : InR y) (h : NodesAre y N f) {i : Int} : nodeAt f y i = none ↔ ∀ n ∈ N, n.id ≠ i := by
 constructor
 · intro hn n hm e
   have := (nodes_at hy h (i := i) (n := n)).2 ⟨hm, e⟩
   rw [hn] at this; cases this
 · intro hno
   cases hn : nodeAt f y i with
   | none => rfl
   | some n => exact absurd ((nodes_at hy h).1 hn).2 (hno n ((nodes_at hy h).1 hn).1)
theorem node_at_listed {y : Int} {N : List Nd} {f : Fun} {l : List KV} (hy : InR y) (h : NodesAre y N f) (hl : ScanIs f (keyOf 78 [y]) l) {n : Nd} (hn : n ∈ N) : n ∈ allN y l := by
 obtain ⟨b1, b2, b3⟩ := h.2.1 n hn
 have hf := h.2.2.2 n hn
 refine List.mem_filterMap.2 ⟨(ndK n, ndV n), (hl.2 _ _).2 ⟨hf, by rw [ndK_y b1]; exact nd_pre y n.id⟩, ?_⟩
 unfold inYear
 simp only
 rw [nodeOf_put b3 (by rw [b1]; exact hy) b2]
 simp only
 rw [if_pos b1]
theorem nodes_perm {y : Int} {N : List Nd} {f : Fun} {l : List KV} (hy : InR y) (h : NodesAre y N f) (hl : ScanIs f (keyOf 78 [y]) l) : (allN y l).Perm N := by
 have hmem : ∀ n, n ∈ allN y l ↔ n ∈ N := fun n => by
   constructor
   · intro hn
     obtain ⟨p, hp, e⟩ := List.mem_filterMap.1 hn
     obtain ⟨h1, h2⟩ := (hl.2 p.1 p.2).1 hp
     obtain ⟨m, hm, e1, e2⟩ := h.2.2.1 _ _ h1 h2
     obtain ⟨b1, b2, b3⟩ := h.2.1 m hm
     unfold inYear at e
     rw [e1, e2, nodeOf_put b3 (by rw [b1]; exact hy) b2] at e
     simp only at e
     rw [if_pos b1] at e
     cases e; exact hm
   · intro hn
     exact node_at_listed hy h hl hn
 have hnd : (allN y l).Nodup := by
   unfold allN
   rw [List.Nodup, List.pairwise_filterMap]
   refine hl.1.imp_of_mem fun {p q} hp hq hlt a ha b hb => ?_
   obtain ⟨h1, h2⟩ := (hl.2 p.1 p.2).1 hp
   obtain ⟨h3, h4⟩ := (hl.2 q.1 q.2).1 hq
   obtain ⟨m, hm, e1, e2⟩ := h.2.2.1 _ _ h1 h2
   obtain ⟨m2, hm2, e3, e4⟩ := h.2.2.1 _ _ h3 h4
   obtain ⟨b1, b2, b3⟩ := h.2.1 m hm
   obtain ⟨c1, c2, c3⟩ := h.2.1 m2 hm2
   unfold inYear at ha hb
   rw [e1, e2, nodeOf_put b3 (by rw [b1]; exact hy) b2] at ha
   rw [e3, e4, nodeOf_put c3 (by rw [c1]; exact hy) c2] at hb
   simp only at ha hb
   rw [if_pos b1] at ha
   rw [if_pos c1] at hb
   cases ha; cases hb
   intro e
   subst e
   have : keyLt p q := hlt
   unfold keyLt at this
   rw [e1, e3, cb_self] at this
   exact absurd this (by decide)
 exact (List.perm_ext_iff_of_nodup hnd (by
   have := h.1
   rw [List.Nodup, List.pairwise_map] at this
   exact this.imp fun hab e => hab (by rw [e]))).2 hmem
theorem nodes_congr {y : Int} {N : List Nd} {f g : Fun} (h : NodesAre y N f) (he : ∀ q, (keyOf 78 [y]).isPrefixOf q = true → g q = f q) : NodesAre y N g :=
 ⟨h.1, h.2.1, fun q v hq hp => h.2.2.1 q v (by rw [← he q hp]; exact hq) hp, fun n hm => by
   rw [he _ (by rw [ndK_y (h.2.1 n hm).1]; exact nd_pre y n.id)]
   exact h.2.2.2 n hm⟩
theorem nodes_upd {y : Int} {N : List Nd} {f : Fun} {q : List UInt8} {v : Option (List UInt8)} {t : UInt8} {a : List Int} (hq : q = keyOf t a) (ht : t ≠ 78) (h : NodesAre y N f) : NodesAre y N (upd f q v) :=
 nodes_congr h fun k hk => upd_node f hq ht hk
theorem nodes_new {y : Int} {f : Fun} (h : ∀ q, (keyOf 78 [y]).isPrefixOf q = true → f q = none) : NodesAre y [] f :=
 ⟨.nil, by simp, fun q v hq hp => (by rw [h q hp] at hq; cases hq), by simp⟩
theorem nodes_add {y : Int} {N : List Nd} {f : Fun} {n : Nd} (hy : InR y) (h : NodesAre y N f) (hn : n.year = y) (hi : InR n.id) (ho : n.ok) (hno : ∀ m ∈ N, m.id ≠ n.id) : NodesAre y (N ++ [n]) (upd f (ndK n) (some (ndV n))) := by
 have hne : ∀ m ∈ N, ndK m ≠ ndK n := fun m hm e => by
   obtain ⟨b1, b2, b3⟩ := h.2.1 m hm
   have := ((ndK_iff (m := n) (y := m.year) (i := m.id) (by rw [hn]; exact hy) hi (by rw [b1]; exact hy) b2).1 e).2
   exact hno m hm this
 refine ⟨?_, fun m hm => ?_, fun q v hq hp => ?_, fun m hm => ?_⟩
 · rw [zJb]
   refine List.nodup_append.2 ⟨h.1, by simp, fun a ha b hb e => ?_⟩
   obtain ⟨m, hm, rfl⟩ := zLa.1 ha
   simp at hb
   exact hno m hm (by rw [e, hb])
 · rcases zWa.1 hm with hm | hm
   · exact h.2.1 m hm
   · rw [zYa] at hm; subst hm; exact ⟨hn, hi, ho⟩
 · rw [upd_app] at hq
   split at hq
   · rename_i e
     cases hq
     exact ⟨n, by simp, e, rfl⟩
   · obtain ⟨m, hm, e1, e2⟩ := h.2.2.1 q v hq hp
     exact ⟨m, List.mem_append_left _ hm, e1, e2⟩
 · rw [upd_app]
   rcases zWa.1 hm with hm | hm
   · rw [if_neg (hne m hm)]; exact h.2.2.2 m hm
   · rw [zYa] at hm; subst hm; rw [if_pos rfl]
def putAt (N : List Nd) (n : Nd) : List Nd := N.map fun m => if m.id = n.id then n else m
theorem putAt_ids (N : List Nd) (n : Nd) : (putAt N n).map (·.id) = N.map (·.id) := by
 unfold putAt
 rw [List.map_map]
 apply List.map_congr_left
 intro m _
 show (if m.id = n.id then n else m).id = m.id
 split
 · rename_i e; exact e.symm
 · rfl
theorem nodes_put {y : Int} {N : List Nd} {f : Fun} {n : Nd} (hy : InR y) (h : NodesAre y N f) (hn : n.year = y) (hi : InR n.id) (ho : n.ok) (hin : ∃ m ∈ N, m.id = n.id) : NodesAre y (putAt N n) (upd f (ndK n) (some (ndV n))) := by
 have hkey : ∀ m ∈ N, ndK m = ndK n ↔ m.id = n.id := fun m hm => by
   obtain ⟨b1, b2, b3⟩ := h.2.1 m hm
   constructor
   · intro e
     exact ((ndK_iff (m := n) (y := m.year) (i := m.id) (by rw [hn]; exact hy) hi (by rw [b1]; exact hy) b2).1 e).2
   · intro e
     rw [ndK_y b1, ndK_y hn, e]
 refine ⟨by rw [putAt_ids]; exact h.1, fun m hm => ?_, fun q v hq hp => ?_, fun m hm => ?_⟩
 · obtain ⟨z, hz, rfl⟩ := zLa.1 hm
   split
   · exact ⟨hn, hi, ho⟩
   · exact h.2.1 z hz
 · rw [upd_app] at hq
   split at hq
   · rename_i e
     cases hq
     obtain ⟨z, hz, hzi⟩ := hin
     exact ⟨n, zLa.2 ⟨z, hz, if_pos hzi⟩, e, rfl⟩
   · rename_i e
     obtain ⟨m, hm, e1, e2⟩ := h.2.2.1 q v hq hp
     refine ⟨m, zLa.2 ⟨m, hm, if_neg fun hc => e ?_⟩, e1, e2⟩
     rw [e1]; exact (hkey m hm).2 hc
 · obtain ⟨z, hz, rfl⟩ := zLa.1 hm
   rw [upd_app]
   split
   · rw [if_pos rfl]
   · rename_i hc
     rw [if_neg fun e => hc ((hkey z hz).1 e)]
     exact h.2.2.2 z hz
end Go.Proofs.Lx
namespace Go.Proofs.Lx
open Go.Vm
attribute [local irreducible] awpArr awpBin awpMake awpAppend awpCvX awpStrOf awpBinX awpSlice awpBS awpStore awpAlloc awpCopy awpIndex awpDraw awpIdxX awpFa awpField awpLookup awpUpdate awpDelete awpClear awpRange awpNext awpEntry awpBuild awpClearS awpIdxL awpTree appB awpIdxO eltA treeA
end Go.Proofs.Lx
namespace Go.Proofs.Lx
open Go.Vm
theorem w64s_tot (l : List Int) : w64s l = w64 (tot id l) := by
 have h : ∀ (l : List Int) (a : Int), l.foldl (fun a b => w64 (a + b)) (w64 a) = w64 (a + tot id l) := by
   intro l
   induction l with
   | nil => intro a; show w64 a = w64 (a + 0); rw [Int.add_zero]
   | cons x r ih =>
     intro a
     show r.foldl (fun a b => w64 (a + b)) (w64 (w64 a + x)) = w64 (a + (x + tot id r))
     rw [w64_add, ih]
     congr 1; omega
 have := h l 0
 rw [Int.zero_add] at this
 rw [← this]
 rfl
theorem tot_filter {α : Type} (p : α → Bool) (g : α → Int) : ∀ l : List α, tot id ((l.filter p).map g) = tot (fun x => if p x = true then g x else 0) l
 | [] => rfl
 | x :: r => by
   rw [List.filter_cons]
   by_cases h : p x = true
   · rw [if_pos h]
     show g x + tot id ((r.filter p).map g) = (if p x = true then g x else 0) + _
     rw [if_pos h, tot_filter p g r]
   · rw [if_neg h]
     show tot id ((r.filter p).map g) = (if p x = true then g x else 0) + _
     rw [if_neg h, tot_filter p g r]; omega
def under (N : List Nd) (i : Int) : Int := tot (fun m => if m.parent = i then m.limit else 0) N
def HoldN (N : List Nd) : Prop := ∀ n ∈ N, 1 ≤ n.id ∧ (0 ≤ n.limit ∧ n.limit ≤ 1152921504606846976) ∧ (n.parent = 0 ∨ ∃ p ∈ N, p.id = n.parent) ∧ under N n.id ≤ n.limit ∧ figs n = true ∧ (n.abs = true → usedOf n ≤ n.limit)
theorem hold_nil : HoldN [] := by intro n hn; cases hn
theorem under_pos {N : List Nd} (h : ∀ n ∈ N, 0 ≤ n.limit) (i : Int) : 0 ≤ under N i := by
 unfold under
 induction N with
 | nil => exact Int.le_refl _
 | cons x r ih =>
   have := ih fun n hn => h n (zLb _ hn)
   have hx := h x (List.mem_cons_self ..)
   show 0 ≤ (if x.parent = i then x.limit else 0) + tot _ r
   split <;> omega
theorem tot_perm {α : Type} {g : α → Int} {a b : List α} (h : a.Perm b) : tot g a = tot g b := by
 induction h with
 | nil => rfl
 | cons x _ ih =>
   show g x + _ = g x + _
   rw [ih]
 | swap x y l =>
   show g y + (g x + tot g l) = g x + (g y + tot g l)
   omega
 | trans _ _ i1 i2 => exact i1.trans i2
theorem under_kids {N : List Nd} {i : Int} (hN : HoldN N) (hu : under N i ≤ 1152921504606846976) {l : List Nd} (hp : l.Perm N) : w64s ((l.filter fun n => n.parent == i).map (·.limit)) = under N i := by
 have h0 := under_pos (fun n hn => (hN n hn).2.1.1) i
 have e : tot id ((l.filter fun n => n.parent == i).map (·.limit)) = under N i := by
   rw [tot_filter]
   have e2 : tot (fun n : Nd => if (n.parent == i) = true then n.limit else 0) l = under l i := tot_congr fun n _ => by
     by_cases hx : n.parent = i
     · rw [if_pos hx, if_pos (by simpa using hx)]
     · rw [if_neg hx, if_neg (by simpa using hx)]
   rw [e2]
   exact tot_perm hp
 rw [w64s_tot, e]
 exact wrap_i64 (by omega) (by omega)
theorem hold_new {N : List Nd} {n : Nd} (h : HoldN N) (hno : ∀ m ∈ N, m.id ≠ n.id) (hi : 1 ≤ n.id) (hl : 0 ≤ n.limit ∧ n.limit ≤ 1152921504606846976)
   (hp : n.parent = 0 ∨ ∃ p ∈ N, p.id = n.parent ∧ under N p.id + n.limit ≤ p.limit) (hids : (N.map (·.id)).Nodup) (hz : figs n = true ∧ usedOf n = 0) : HoldN (N ++ [n]) := by
 have hu : ∀ i, under (N ++ [n]) i = under N i + (if n.parent = i then n.limit else 0) := fun i => by
   unfold under
   rw [tot_append]
   show _ + ((if n.parent = i then n.limit else 0) + 0) = _
   omega
 intro m hm
 rcases zWa.1 hm with hm | hm
 · obtain ⟨h1, h2, h3, h4, h5, h6⟩ := h m hm
   refine ⟨h1, h2, h3.imp id fun ⟨p, hp, e⟩ => ⟨p, List.mem_append_left _ hp, e⟩, ?_, h5, h6⟩
   rw [hu]
   split
   · rename_i e
     rcases hp with hp | ⟨p, hpm, hpe, hpu⟩
     · omega
     · have : p = m := ids_same hids hpm hm (by rw [hpe, e])
       subst this; exact hpu
   · omega
 · rw [zYa] at hm
   subst hm
   refine ⟨hi, hl, hp.imp id fun ⟨p, hp, e, _⟩ => ⟨p, List.mem_append_left _ hp, e⟩, ?_, hz.1, fun _ => by rw [hz.2]; exact hl.1⟩
   rw [hu]
   have e0 : under N m.id = 0 := tot_zero fun z hz2 => if_neg fun e => by
     obtain ⟨-, -, h3, -⟩ := h z hz2
     rcases h3 with h3 | ⟨p, hpm, hpe⟩
     · omega
     · exact hno p hpm (by rw [hpe, e])
   have en : ¬ m.parent = m.id := fun e => by
     rcases hp with hp | ⟨p, hpm, hpe, -⟩
     · omega
     · exact hno p hpm (by rw [hpe, e])
   rw [e0, if_neg en]
   omega
theorem hold_limit {N : List Nd} {n : Nd} {to : Int} (h : HoldN N) (hids : (N.map (·.id)).Nodup) (hn : n ∈ N) (ht : 0 ≤ to ∧ to ≤ 1152921504606846976) (hk : under N n.id ≤ to) (ha : n.abs = true → usedOf n ≤ to)
   (hp : ∀ p ∈ N, p.id = n.parent → under N p.id + (to - n.limit) ≤ p.limit) : HoldN (putAt N { n with limit := to }) ∧ ∀ i, under (putAt N { n with limit := to }) i = under N i + (if n.parent = i then to - n.limit else 0) := by
 have hself : n.parent ≠ n.id ∨ n.parent = n.id := by omega
 have hu : ∀ i, under (putAt N { n with limit := to }) i = under N i + (if n.parent = i then to - n.limit else 0) := fun i => by
   clear h hk ha hp hself
   unfold under putAt
   rw [tot_map]
   have e1 : tot (fun m : Nd => if (if m.id = n.id then ({ n with limit := to } : Nd) else m).parent = i then (if m.id = n.id then ({ n with limit := to } : Nd) else m).limit else 0) N =
       tot (fun m => (if m.parent = i then m.limit else 0) + (if n.id = m.id then (if n.parent = i then to - n.limit else 0) else 0)) N := tot_congr fun m hm => by
     by_cases he : m.id = n.id
     · have := ids_same hids hm hn he
       subst this
       rw [if_pos rfl, if_pos rfl]
       show (if m.parent = i then to else 0) = (if m.parent = i then m.limit else 0) + (if m.parent = i then to - m.limit else 0)
       split <;> omega
     · rw [if_neg he, if_neg (show ¬ n.id = m.id from fun e => he e.symm)]
       omega
   refine e1.trans ?_
   rw [tot_add]
   congr 1
   have e2 := tot_map (fun j : Int => if n.id = j then (if n.parent = i then to - n.limit else 0) else 0) (fun m : Nd => m.id) N
   rw [← e2, tot_one (fun _ => if n.parent = i then to - n.limit else 0) hids n.id, if_pos (zLa.2 ⟨n, hn, rfl⟩)]
 refine ⟨fun m hm => ?_, hu⟩
 obtain ⟨z, hz, rfl⟩ := zLa.1 hm
 obtain ⟨h1, h2, h3, h4, h5, h6⟩ := h z hz
 have hpar : ∀ q : Int, (q = 0 ∨ ∃ p ∈ N, p.id = q) → q = 0 ∨ ∃ p ∈ putAt N { n with limit := to }, p.id = q := fun q hq => hq.imp id fun ⟨p, hpm, e⟩ => by
   have : p.id ∈ (putAt N { n with limit := to }).map (·.id) := by rw [putAt_ids]; exact zLa.2 ⟨p, hpm, rfl⟩
   obtain ⟨p2, hp2, e2⟩ := zLa.1 this
   exact ⟨p2, hp2, by rw [e2, e]⟩
 by_cases he : z.id = n.id
 · have := ids_same hids hz hn he
   subst this
   rw [if_pos rfl]
   refine ⟨h1, ht, hpar _ h3, ?_, h5, ha⟩
   show under (putAt N { z with limit := to }) z.id ≤ to
   rw [hu]
   split
   · rename_i e
     have := hp z hn e.symm
     omega
   · omega
 · rw [if_neg he]
   refine ⟨h1, h2, hpar _ h3, ?_, h5, h6⟩
   rw [hu]
   split
   · rename_i e
     exact hp z hz e.symm
   · omega
theorem hold_figs {N : List Nd} {g : Nd → Nd} (h : HoldN N) (hg : ∀ n ∈ N, (g n).id = n.id ∧ (g n).parent = n.parent ∧ (g n).limit = n.limit ∧ figs (g n) = true ∧ ((g n).abs = true → usedOf (g n) ≤ n.limit)) : HoldN (N.map g) := by
 have hu : ∀ i, under (N.map g) i = under N i := fun i => by
   unfold under
   rw [tot_map]
   exact tot_congr fun m hm => by rw [(hg m hm).2.1, (hg m hm).2.2.1]
 intro m hm
 obtain ⟨z, hz, rfl⟩ := zLa.1 hm
 obtain ⟨h1, h2, h3, h4, h5, h6⟩ := h z hz
 obtain ⟨g1, g2, g3, g4, g5⟩ := hg z hz
 refine ⟨by rw [g1]; exact h1, by rw [g3]; exact h2, ?_, by rw [hu, g1, g3]; exact h4, g4, fun ha => by rw [g3]; exact g5 ha⟩
 rw [g2]
 refine h3.imp id fun ⟨p, hp, e⟩ => ⟨g p, zLa.2 ⟨p, hp, rfl⟩, by rw [(hg p hp).1, e]⟩
theorem hold_charge {y i : Int} {N : List Nd} {f : Fun} {c : Chg} (hy : InR y) (h : NodesAre y N f) (hN : HoldN N) (he : (chargeOf f y i c).2.2 = 0) : ∃ N', NodesAre y N' (chargeOf f y i c).1 ∧ HoldN N' ∧ N'.map (·.id) = N.map (·.id) := by
 have hat := pathOf_at f y 8 i
 have hpo := pathOf_ok f y 8 i
 unfold chargeOf at he ⊢
 by_cases h0 : (pathOf f y 8 i).length = 0
 · rw [if_pos h0] at he; simp at he
 · rw [if_neg h0] at he ⊢
   by_cases hr : chgRight c = false
   · rw [if_pos hr] at he; simp at he
   · rw [if_neg hr] at he ⊢
     have hcr : chgRight c = true := by simpa using hr
     obtain ⟨i1, -, i3⟩ := run_done c _ f false he
     generalize pathOf f y 8 i = p at hat hpo he i1 i3 ⊢
     generalize (chargeRun c p f false).1 = f' at i3 ⊢
     have hpN : ∀ m ∈ p, m ∈ N := fun m hm => ((nodes_at hy h).1 (hat m hm)).1
     have hkey : ∀ a ∈ N, ∀ b ∈ N, ndK a = ndK b → a = b := fun a ha b hb e => by
       obtain ⟨a1, a2, a3⟩ := h.2.1 a ha
       obtain ⟨b1, b2, b3⟩ := h.2.1 b hb
       exact ids_same h.1 ha hb ((ndK_iff (m := b) (y := a.year) (i := a.id) (by rw [b1]; exact hy) b2 (by rw [a1]; exact hy) a2).1 e).2
     classical
     refine ⟨N.map fun m => if m ∈ p then addC c m else m, ⟨?_, fun m hm => ?_, fun q v hq hp2 => ?_, fun m hm => ?_⟩, hold_figs hN fun n hn => ?_, ?_⟩
     · rw [List.map_map]
       have : (fun m : Nd => m.id) ∘ (fun m => if m ∈ p then addC c m else m) = fun m => m.id := by
         funext m
         show (if m ∈ p then addC c m else m).id = m.id
         split <;> rfl
       rw [this]; exact h.1
     · obtain ⟨z, hz, rfl⟩ := zLa.1 hm
       obtain ⟨b1, b2, b3⟩ := h.2.1 z hz
       split
       · exact ⟨b1, b2, addC_ok c z b3⟩
       · exact ⟨b1, b2, b3⟩
     · rcases i3 q with ⟨m, hm, e1, e2⟩ | ⟨e1, e2⟩
       · rw [hq] at e2
         cases e2
         exact ⟨addC c m, zLa.2 ⟨m, hpN m hm, if_pos hm⟩, e1, rfl⟩
       · rw [hq] at e2
         obtain ⟨m, hm, e3, e4⟩ := h.2.2.1 q v e2.symm hp2
         exact ⟨m, zLa.2 ⟨m, hm, if_neg fun hmp => e1 m hmp e3⟩, e3, e4⟩
     · obtain ⟨z, hz, rfl⟩ := zLa.1 hm
       by_cases hzp : z ∈ p
       · rw [if_pos hzp]
         rcases i3 (ndK z) with ⟨m, hm2, e1, e2⟩ | ⟨e1, -⟩
         · have := hkey z hz m (hpN m hm2) e1
           subst this
           exact e2
         · exact absurd rfl (e1 z hzp)
       · rw [if_neg hzp]
         rcases i3 (ndK z) with ⟨m, hm2, e1, e2⟩ | ⟨-, e2⟩
         · have := hkey z hz m (hpN m hm2) e1
           subst this
           exact absurd hm2 hzp
         · rw [e2]; exact h.2.2.2 z hz
     · obtain ⟨-, -, -, -, h5, h6⟩ := hN n hn
       by_cases hnp : n ∈ p
       · rw [if_pos hnp]
         obtain ⟨f1, f2, -, -⟩ := at_done (i1 n hnp).1
         refine ⟨rfl, rfl, rfl, f2, fun ha => ?_⟩
         refine Classical.byContradiction fun hc => ?_
         have hb := beyond_warned (c := c) (w := (atOf c n).2.1) hcr (.inr ⟨rfl, (i1 n hnp).1, fun h => h⟩) (show usedOf (addC c n) > (addC c n).limit by show _ > n.limit; omega) (by have := h6 ha; omega)
         rw [hb.1] at ha; cases ha
       · rw [if_neg hnp]
         exact ⟨rfl, rfl, rfl, h5, h6⟩
     · rw [List.map_map]
       apply List.map_congr_left
       intro m _
       show (if m ∈ p then addC c m else m).id = m.id
       split <;> rfl
end Go.Proofs.Lx
namespace Go.Proofs.Lx
open Go.Vm
attribute [local irreducible] awpArr awpBin awpMake awpAppend awpCvX awpStrOf awpBinX awpSlice awpBS awpStore awpAlloc awpCopy awpIndex awpDraw awpIdxX awpFa awpField awpLookup awpUpdate awpDelete awpClear awpRange awpNext awpEntry awpBuild awpClearS awpIdxL awpTree appB awpIdxO eltA treeA
theorem IsFunds.at {p r : List Ln} (h : IsFunds p r) (k : Nat) (hk : k < r.length) : r[k] = ⟨r[k].fund, 0, 0, sumF p r[k].fund⟩ ∧ ∃ y ∈ p, y.fund = r[k].fund :=
 ⟨((h.2 _).1 (zMa hk)).2, ((h.2 _).1 (zMa hk)).1⟩
theorem IsFunds.lt {p r : List Ln} (h : IsFunds p r) {i j : Nat} (hij : i < j) (hj : j < r.length) : (r[i]'(by omega)).fund < r[j].fund := List.pairwise_iff_getElem.1 h.1 i j (by omega) hj hij
theorem has_more {p : List Ln} {x : Ln} {n : Int} (d : n ≠ x.fund) : (∃ y ∈ p ++ [x], y.fund = n) ↔ ∃ y ∈ p, y.fund = n := ⟨fun ⟨y, hy, e⟩ => by
 rcases zWa.1 hy with hy | hy
 · exact ⟨y, hy, e⟩
 · rw [zYa] at hy; subst hy; exact (d e.symm).elim, fun ⟨y, hy, e⟩ => ⟨y, by simp [hy], e⟩⟩
theorem IsFunds.insert {p r : List Ln} (h : IsFunds p r) (x : Ln) (hx : I64 x.amt) (j : Nat) (hj : j ≤ r.length) (hb : ∀ k (hk : k < r.length), k < j → r[k].fund < x.fund) (ha : ∀ hk : j < r.length, x.fund < r[j].fund) :
   IsFunds (p ++ [x]) (r.take j ++ ⟨x.fund, 0, 0, x.amt⟩ :: r.drop j) := by
 have hno : ∀ z ∈ r, z.fund ≠ x.fund := fun z hz e => by
   obtain ⟨k, hk, rfl⟩ := zPa hz
   by_cases hkj : k < j
   · have := hb k hk hkj; omega
   · have h1 := ha (by omega)
     by_cases hkj2 : k = j
     · subst hkj2; omega
     · have := h.lt (i := j) (j := k) (by omega) hk; omega
 have hnx : ¬ ∃ y ∈ p, y.fund = x.fund := fun hc => hno _ ((h.2 ⟨x.fund, 0, 0, sumF p x.fund⟩).2 ⟨hc, rfl⟩) rfl
 refine ⟨?_, fun z => ?_⟩
 · have hs : (r.take j ++ r.drop j).Pairwise (fun a b => a.fund < b.fund) := by rw [List.take_append_drop]; exact h.1
   rw [List.pairwise_append] at hs
   rw [List.pairwise_append, List.pairwise_cons]
   have hd : ∀ b ∈ r.drop j, x.fund < b.fund := fun b hb' => by
     obtain ⟨k, hk, rfl⟩ := zPa hb'
     rw [List.length_drop] at hk
     rw [List.getElem_drop]
     have h1 := ha (by omega)
     by_cases hk0 : k = 0
     · subst hk0; exact h1
     · have := h.lt (i := j) (j := j + k) (by omega) (by omega); omega
   refine ⟨hs.1, ⟨hd, hs.2.1⟩, fun a ha' b hb' => ?_⟩
   rcases zQa.1 hb' with rfl | hb'
   · obtain ⟨k, hk, rfl⟩ := zPa ha'
     rw [List.length_take] at hk
     rw [List.getElem_take]
     exact hb k (by omega) (by omega)
   · exact hs.2.2 a ha' b hb'
 · have hm : z ∈ r.take j ++ ⟨x.fund, 0, 0, x.amt⟩ :: r.drop j ↔ z = ⟨x.fund, 0, 0, x.amt⟩ ∨ z ∈ r := by
     have : z ∈ r ↔ z ∈ r.take j ∨ z ∈ r.drop j := by rw [← zWa, List.take_append_drop]
     rw [this, zWa, zQa]
     constructor
     · rintro (h | h | h)
       · exact .inr (.inl h)
       · exact .inl h
       · exact .inr (.inr h)
     · rintro (h | h | h)
       · exact .inr (.inl h)
       · exact .inl h
       · exact .inr (.inr h)
   rw [hm, sumF_step]
   by_cases d : z.fund = x.fund
   · rw [if_pos d]
     have e0 : w64 (sumF p z.fund + x.amt) = x.amt := by
       rw [d, sumF_none hnx, Int.zero_add]
       unfold I64 at hx
       exact wrap_i64 (by omega) (by omega)
     rw [e0]
     constructor
     · rintro (h1 | h1)
       · subst h1; exact ⟨⟨x, by simp, rfl⟩, rfl⟩
       · exact (hno z h1 d).elim
     · rintro ⟨-, h1⟩
       left; rw [h1, d]
   · rw [if_neg d, has_more d, ← h.2 z]
     exact ⟨fun h1 => h1.resolve_left fun e => d (by rw [e]), .inr⟩
theorem IsFunds.more {p r : List Ln} (h : IsFunds p r) (x : Ln) (j : Nat) (hj : j < r.length) (hx : r[j].fund = x.fund) :
   IsFunds (p ++ [x]) (r.set j ⟨r[j].fund, r[j].obj, r[j].node, w64 (r[j].amt + x.amt)⟩) := by
 obtain ⟨h1, h2⟩ := h.at j hj
 have e1 : r[j].obj = 0 := by rw [h1]
 have e2 : r[j].node = 0 := by rw [h1]
 have e3 : r[j].amt = sumF p x.fund := by rw [h1, ← hx]
 rw [e1, e2, e3, hx]
 have hmap : ∀ y : Ln, y.fund = x.fund → (r.set j y).map Ln.fund = r.map Ln.fund := fun y hy => by
   rw [List.map_set, hy, ← hx]
   apply List.ext_getElem (by simp)
   intro k k1 k2
   rw [List.getElem_set]
   split
   · subst_vars; rw [List.getElem_map]
   · rfl
 refine ⟨?_, fun z => ?_⟩
 · have := List.pairwise_map.2 h.1
   rw [← hmap ⟨x.fund, 0, 0, w64 (sumF p x.fund + x.amt)⟩ rfl] at this
   exact List.pairwise_map.1 this
 · rw [sumF_step]
   by_cases d : z.fund = x.fund
   · rw [if_pos d]
     constructor
     · intro hz
       obtain ⟨k, hk, rfl⟩ := zPa hz
       rw [List.length_set] at hk
       by_cases hkj : j = k
       · subst hkj
         rw [List.getElem_set_self]
         exact ⟨⟨x, by simp, rfl⟩, rfl⟩
       · rw [List.getElem_set_ne hkj] at d
         rcases Nat.lt_or_ge k j with h' | h'
         · have := h.lt h' hj; omega
         · have := h.lt (i := j) (j := k) (by omega) hk; omega
     · rintro ⟨-, hz⟩
       rw [hz, d]
       exact List.mem_set hj _
   · rw [if_neg d, has_more d, ← h.2 z]
     constructor
     · intro hz
       rcases List.mem_or_eq_of_mem_set hz with h' | h'
       · exact h'
       · exact (d (by rw [h'])).elim
     · intro hz
       obtain ⟨k, hk, rfl⟩ := zPa hz
       have hne : j ≠ k := fun e => by subst e; exact d hx
       have : (r.set j ⟨x.fund, 0, 0, w64 (sumF p x.fund + x.amt)⟩)[k]'(by rw [List.length_set]; exact hk) = r[k] := List.getElem_set_ne hne _
       rw [← this]; exact zMa _
theorem does_rFundP : Does Tryz.prog 70 (predSpec fundP) := by
 refine dA good_nil Tryz.func70 rfl (by decide +kernel) ?_
 rintro args h Q ⟨n, rfl, hq⟩
 refine ⟨by simp [Tryz.f70], ?_⟩
 unfold fundP at hq
 simp -dsimp only [Vm.G, zA, zB, zC, zD, zE, zF, q70.1]
 cases c1 : decide (100 ≤ n)
 · rw [c1] at hq
   simp -dsimp only [Vm.G, zA, zB, zC, zD, zE, zF, q70.1]
   exact hq
 · rw [c1] at hq
   simp -dsimp only [Vm.G, zA, zB, zC, zD, zE, zF, q70.1]
   exact hq
theorem does_rFixedP : Does Tryz.prog 82 (predSpec fixedP) := by
 refine dA good_nil Tryz.func82 rfl (by decide +kernel) ?_
 rintro args h Q ⟨n, rfl, hq⟩
 refine ⟨by simp [Tryz.f82], ?_⟩
 unfold fixedP at hq
 simp -dsimp only [Vm.G, zA, zB, zC, zD, zE, zF, q82.1]
 cases c1 : (n == 1010)
 · rw [c1] at hq
   simp -dsimp only [Vm.G, zA, zB, zC, zD, zE, zF, q82.1]
   cases c2 : (n == 1900)
   · rw [c2] at hq
     simp -dsimp only [Vm.G, zA, zB, zC, zD, zE, zF, q82.1]
     cases c3 : (n == 2900)
     · rw [c3] at hq
       simp -dsimp only [Vm.G, zA, zB, zC, zD, zE, zF, q82.1]
       exact hq
     · rw [c3] at hq
       simp -dsimp only [Vm.G, zA, zB, zC, zD, zE, zF, q82.1]
       exact hq
   · rw [c2] at hq
     simp -dsimp only [Vm.G, zA, zB, zC, zD, zE, zF, q82.1]
     exact hq
 · rw [c1] at hq
   simp -dsimp only [Vm.G, zA, zB, zC, zD, zE, zF, q82.1]
   exact hq
def rcFundSpec : Vm.Spec := fun args h Q => ∃ (R : RId) (f : Fun) (n : Int), args = [.ptr R.iv 0, .v (.int .i64 n)] ∧ isRef h R f ∧ f.n ≤ 536870912 ∧ (∀ s, f (fundK n) = some s → Q (.tup [.v (.string ⟨s.toArray⟩), .v (.bool true)]) h) ∧ (f (fundK n) = none → Q (.tup [.v (.string ⟨([] : List UInt8).toArray⟩), .v (.bool false)]) h)
theorem does_rcFund : Does Tryz.prog 72 rcFundSpec := by
 refine dA (good_cons does_rKey (good_cons does_rGet good_nil)) Tryz.func72 rfl (by decide +kernel) ?_
 rintro args h Q ⟨R, f, n, rfl, hR, hfn, hq1, hq2⟩
 refine ⟨by simp [Tryz.f72], ?_⟩
 simp -dsimp only [Vm.G, zA, zB, zC, zD, zE, zF, q72.1]
 refine bs_intro zr3 (by decide) (by decide) rfl rfl (by simp [solid, AV.cells]) ?_
 simp -dsimp only [Vm.G, zA, zB, zC, zD, zE, zF, q72.1]
 refine call_one (S := keySpec) rfl _ GaL.rfl ⟨70, [n], by simp, rfl, ?_⟩
 simp -dsimp only [Vm.G, zA, zB, zC, zD, zE, zF, q72.1]
 refine call_one (S := rGetSpec) rfl _ GaL.rfl ⟨R, f, fundK n, rfl, hR, hfn, fun s hf => ?_, fun hf => ?_⟩
 · simp -dsimp only [Vm.G, zA, zB, zC, zD, zE, zF, q72.1]
   refine strOf_sl bt123 s rfl ?_
   simp -dsimp only [Vm.G, zA, zB, zC, zD, zE, zF, q72.1]
   exact hq1 s hf
 · simp -dsimp only [Vm.G, zA, zB, zC, zD, zE, zF, q72.1]
   refine strOf_sl bt123 [] rfl ?_
   simp -dsimp only [Vm.G, zA, zB, zC, zD, zE, zF, q72.1]
   exact hq2 hf
def rcObjSpec : Vm.Spec := fun args h Q => ∃ (R : RId) (f : Fun) (n : Int), args = [.ptr R.iv 0, .v (.int .i64 n)] ∧ isRef h R f ∧ f.n ≤ 536870912 ∧ Q (.v (.bool (objOk f n))) h
theorem does_rcObj : Does Tryz.prog 80 rcObjSpec := by
 refine dA (good_cons does_rFixedP (good_cons does_rKey (good_cons does_rGet good_nil))) Tryz.func80 rfl (by decide +kernel) ?_
 rintro args h Q ⟨R, f, n, rfl, hR, hfn, hq⟩
 refine ⟨by simp [Tryz.f80], ?_⟩
 unfold objOk at hq
 simp -dsimp only [Vm.G, zA, zB, zC, zD, zE, zF, q80.1]
 refine bs_intro zr3 (by decide) (by decide) rfl rfl (by simp [solid, AV.cells]) ?_
 simp -dsimp only [Vm.G, zA, zB, zC, zD, zE, zF, q80.1]
 refine call_one (S := keySpec) rfl _ GaL.rfl ⟨79, [n], by simp, rfl, ?_⟩
 simp -dsimp only [Vm.G, zA, zB, zC, zD, zE, zF, q80.1]
 refine call_one (S := rGetSpec) rfl _ GaL.rfl ⟨R, f, objK n, rfl, hR, hfn, fun s hf => ?_, fun hf => ?_⟩
 · rw [hf] at hq
   have hq : Q (.v (.bool true)) h := by simpa using hq
   simp -dsimp only [Vm.G, zA, zB, zC, zD, zE, zF, q80.1]
   exact hq
 · rw [hf] at hq
   have hq : Q (.v (.bool (fixedP n))) h := by simpa using hq
   simp -dsimp only [Vm.G, zA, zB, zC, zD, zE, zF, q80.1]
   refine call_one (S := predSpec fixedP) rfl _ GaL.rfl ⟨n, rfl, ?_⟩
   simp -dsimp only [Vm.G, zA, zB, zC, zD, zE, zF, q80.1]
   exact hq
theorem thenO_nn (A B : Prop) : thenO .normal A B = A := rfl
theorem does_rName : Does Tryz.prog 71 nameSpec := by
 refine dA good_nil Tryz.func71 rfl (by decide +kernel) ?_
 rintro args h Q ⟨s, hl, rfl, hq⟩
 refine ⟨by simp [Tryz.f71], ?_⟩
 unfold nameOk at hq
 have hsz := size_mk s
 simp -dsimp only [Vm.G, zA, zB, zC, zD, zE, zF, q71.1, hsz]
 refine awp_loop (fun m s' h' => ∃ i : Nat, i + m = s.length ∧ h' = h ∧ (∀ j (hj : j < s.length), j < i → badC s[j] = false) ∧ s' = mk [(0, .v (.string ⟨s.toArray⟩)), (3, .v (.int .i64 (i : Nat)))])
   s.length _ (le_mk _ ?_) ⟨0, by omega, rfl, fun j _ hj => by omega, rfl⟩ ?_
 · simp only [Vm.D]
   try simp -dsimp only [Vm.G, zA, zB, zC, zD, zE, zF, q71.1]
   repeat' first | exact .refl _ | exact .nil _ _ _ (by decide) | refine ⟨?_, ?_⟩
 · rintro m s' h' ⟨i, hi, rfl, hb, rfl⟩
   simp -dsimp only [Vm.G, zA, zB, zC, zD, zE, zF, q71.1, hsz]
   refine cond_intro (fun hcc => ?_) (fun hcc => ?_)
   · have hlt : i < s.length := by have := of_decide_eq_true hcc; omega
     have hw := hwN i (by omega)
     have hany : badC s[i] = true → s.any badC = true := fun h => List.any_eq_true.2 ⟨s[i], zMa hlt, h⟩
     have hbi : badC s[i] = false → ∀ j (hj : j < s.length), j < i + 1 → badC s[j] = false := fun h j hj hj2 => by
       by_cases hji : j = i
       · subst hji; exact h
       · exact hb j hj (by omega)
     have hgd : (ByteArray.mk s.toArray).data.toList.getD (i : Int).toNat 0 = s[i] := by simp [List.getD, hlt]
     refine index_str Tryz.underlying9 (by omega) (by rw [hsz]; omega) ?_
     rw [hgd]
     generalize s[i] = c at hany hbi hgd ⊢
     simp -dsimp only [Vm.G, zA, zB, zC, zD, zE, zF, q71.1]
     cases c1 : decide ((c.toNat : Int) < 32)
     · simp -dsimp only [Vm.G, zA, zB, zC, zD, zE, zF, q71.1]
       refine index_str Tryz.underlying9 (by omega) (by rw [hsz]; omega) ?_
       rw [hgd]
       simp -dsimp only [Vm.G, zA, zB, zC, zD, zE, zF, q71.1]
       cases c2 : decide ((c.toNat : Int) > 126)
       · have hb1 : badC c = false := by unfold badC; rw [c1, c2]; rfl
         simp -dsimp only [Vm.G, zA, zB, zC, zD, zE, zF, q71.1]
         simp only [thenO_nn]
         refine kept_intro ⟨s.length - (i + 1), by omega, _, le_mk [(0, .v (.string ⟨s.toArray⟩)), (3, .v (.int .i64 (i + 1 : Nat)))] ?_, i + 1, by omega, rfl, hbi hb1, rfl⟩
         simp only [Vm.D, hw]
         try simp -dsimp only [Vm.G, zA, zB, zC, zD, zE, zF, q71.1, hw]
         repeat' first | exact .refl _ | exact .nil _ _ _ (by decide) | refine ⟨?_, ?_⟩
       · have hb1 : badC c = true := by unfold badC; rw [c1, c2]; rfl
         rw [hany hb1] at hq
         have hq : Q (.v (.bool false)) h' := by simpa using hq
         simp -dsimp only [Vm.G, zA, zB, zC, zD, zE, zF, q71.1]
         exact hq
     · have hb1 : badC c = true := by unfold badC; rw [c1]; rfl
       rw [hany hb1] at hq
       have hq : Q (.v (.bool false)) h' := by simpa using hq
       simp -dsimp only [Vm.G, zA, zB, zC, zD, zE, zF, q71.1]
       exact hq
   · have hge : ¬ i < s.length := by have := of_decide_eq_false hcc; omega
     have hany : s.any badC = false := by
       rw [List.any_eq_false]
       intro x hx
       obtain ⟨j, hj, rfl⟩ := zPa hx
       rw [hb j hj (by omega)]; decide
     rw [hany] at hq
     simp -dsimp only [Vm.G, zA, zB, zC, zD, zE, zF, q71.1, hsz]
     cases c1 : decide ((s.length : Int) ≥ 1)
     · have c0 : (s.length == 0) = true := beq_iff_eq.2 (by have := of_decide_eq_false c1; omega)
       rw [c0] at hq
       simp -dsimp only [Vm.G, zA, zB, zC, zD, zE, zF, q71.1, hsz]
       exact hq
     · have c0 : (s.length == 0) = false := by have := of_decide_eq_true c1; exact beq_eq_false_iff_ne.2 (by omega)
       rw [c0] at hq
       have e : decide (s.length ≤ 20) = decide ((s.length : Int) ≤ 20) := by
         by_cases h : s.length ≤ 20
         · rw [decide_eq_true h, decide_eq_true (by omega)]
         · rw [decide_eq_false h, decide_eq_false (by omega)]
       rw [e] at hq
       have hq : Q (.v (.bool (decide ((s.length : Int) ≤ 20)))) h' := by simpa using hq
       simp -dsimp only [Vm.G, zA, zB, zC, zD, zE, zF, q71.1, hsz]
       exact hq
theorem ofOf_num {k v : List UInt8} {tag : UInt8} (hp : [tag].isPrefixOf k = true) : ofOf k tag 1 = (numF (k, v)).map fun n => [n] := by
 have htag : ∀ t l', splitOf k = some (t, l') → t = tag := fun t l' hs => by
   unfold splitOf at hs
   split at hs
   · cases hs
   · split at hs
     · cases hs
       have hpre' : tag = t := by simpa [List.isPrefixOf] using hp
       exact hpre'.symm
     · cases hs
 unfold ofOf numF
 simp only
 cases hx : splitOf k with
 | none => rfl
 | some q =>
   obtain ⟨t, l'⟩ := q
   have ht := htag t l' hx
   simp only
   match l' with
   | [] => simp
   | [n] => simp [ht]
   | _ :: _ :: _ => simp; omega
def rcAllSpec : Vm.Spec := fun args h Q => ∃ (R : RId) (f : Fun) (tag : UInt8), args = [.ptr R.iv 0, .v (.int .u8 tag.toNat)] ∧ isRef h R f ∧ f.n ≤ 536870912 ∧
 ∀ l, ScanIs f [tag] l → l.length ≤ f.n → Q (.own true 3 1 ((allF l).map encI)) h
theorem does_rcAll : Does Tryz.prog 81 rcAllSpec := by
 refine dA (good_cons does_rScan (good_cons does_rOf good_nil)) Tryz.func81 rfl (by decide +kernel) ?_
 rintro args h Q ⟨R, f, tag, rfl, hR, hn, hq⟩
 refine ⟨by simp [Tryz.f81], ?_⟩
 simp -dsimp only [Vm.G, zA, zB, zC, zD, zE, zF, q81.1]
 refine bs_intro zr5 (by decide) (by decide) rfl rfl (by simp [solid, AV.cells]) ?_
 simp -dsimp only [Vm.G, zA, zB, zC, zD, zE, zF, q81.1]
 refine call_one (S := rScanSpec) rfl _ GaL.rfl ⟨R, f, [tag], rfl, by simp, hR, hn, fun l hsc hln => ?_⟩
 simp -dsimp only [Vm.G, zA, zB, zC, zD, zE, zF, q81.1]
 refine awp_loop (fun m s h' => ∃ i : Nat, i + m = l.length ∧ h' = h ∧ s = mk [(1, .v (.int .u8 tag.toNat)), (5, .own true 3 1 ((allF (l.take (i))).map encI)), (6, .own true 132 2 (l.map kvAv)), (7, .v (.int .i64 (i : Nat)))])
   l.length _ (le_mk _ ?_) ⟨0, by omega, rfl, rfl⟩ ?_
 · simp only [Vm.D]
   try simp -dsimp only [Vm.G, zA, zB, zC, zD, zE, zF, q81.1]
   repeat' first | exact .refl _ | exact .nil _ _ _ (by decide) | refine ⟨?_, ?_⟩
 · rintro m s h' ⟨i, hi, rfl, rfl⟩
   simp -dsimp only [Vm.G, zA, zB, zC, zD, zE, zF, q81.1, zJa]
   refine cond_intro (fun hcc => ?_) (fun hcc => ?_)
   · have hlt : i < l.length := by have := of_decide_eq_true hcc; omega
     have hw := hwN i (by omega)
     have hget : (l.map kvAv)[i]? = some (kvAv l[i]) := by simp [hlt]
     have est := filterMap_step numF l i hlt
     have hal : (allF (l.take i)).length ≤ i := filterMap_le numF l i
     have hin := (hsc.2 l[i].1 l[i].2).1 (zMa hlt)
     have hkl : l[i].1.length ≤ 32 := (hR.len hin.1).1
     have hof := ofOf_num (v := l[i].2) hin.2
     clear hin
     generalize l[i] = p at hget est hkl hof
     obtain ⟨k, v⟩ := p
     simp only at hkl hof
     simp -dsimp only [Vm.G, zA, zB, zC, zD, zE, zF, q81.1]
     refine idxO_intro (by omega) (by simp; omega) ?_
     simp -dsimp only [Vm.G, zA, zB, zC, zD, zE, zF, q81.1, zVa]
     refine eltA_intro hget ?_
     simp only [kvAv]
     simp -dsimp only [Vm.G, zA, zB, zC, zD, zE, zF, q81.1, AV.cells, zMb]
     refine call_one (S := rOfSpec) rfl _ GaL.rfl ⟨k, tag, 1, by omega, rfl, fun hs => ?_, fun l' hs => ?_⟩
     · rw [hs] at hof
       have hnn : numF (k, v) = none := by
         cases hx : numF (k, v) with
         | none => rfl
         | some n => rw [hx] at hof; cases hof
       rw [hnn] at est
       simp -dsimp only [Vm.G, zA, zB, zC, zD, zE, zF, q81.1]
       refine kept_intro ⟨l.length - (i + 1), by omega, _, le_mk [(1, .v (.int .u8 tag.toNat)), (5, .own true 3 1 ((allF (l.take (i + 1))).map encI)), (6, .own true 132 2 (l.map kvAv)), (7, .v (.int .i64 (i + 1 : Nat)))] ?_, i + 1, by omega, rfl, rfl⟩
       simp only [Vm.D, hw, est, Option.toList, List.append_nil]
       try simp -dsimp only [Vm.G, zA, zB, zC, zD, zE, zF, q81.1, hw, est, Option.toList, List.append_nil]
       repeat' first | exact .refl _ | exact .nil _ _ _ (by decide) | refine ⟨?_, ?_⟩
     · rw [hs] at hof
       have hnn : ∃ n, numF (k, v) = some n ∧ l' = [n] := by
         cases hx : numF (k, v) with
         | none => rw [hx] at hof; cases hof
         | some n => rw [hx] at hof; cases hof; exact ⟨n, rfl, rfl⟩
       rcases hnn with ⟨n, hnn, rfl⟩
       rw [hnn] at est
       have g0 : (([n] : List Int).map encI)[(0 : Int).toNat]? = some (encI n) := rfl
       have hl1 : (([n] : List Int).map encI).length = 1 := rfl
       generalize hxs : ([n] : List Int).map encI = xs at g0 hl1 ⊢
       simp -dsimp only [Vm.G, zA, zB, zC, zD, zE, zF, q81.1]
       refine idxO_intro (by decide) (by rw [hl1]; decide) ?_
       simp -dsimp only [Vm.G, zA, zB, zC, zD, zE, zF, q81.1]
       refine eltA_intro g0 ?_
       simp only [encI]
       simp -dsimp only [Vm.G, zA, zB, zC, zD, zE, zF, q81.1, AV.cells, zMb]
       refine bs_intro zr3 (by decide) (by decide) rfl rfl (by simp [solid, AV.cells]) ?_
       simp -dsimp only [Vm.G, zA, zB, zC, zD, zE, zF, q81.1]
       refine app_sl Tryz.underlying120 (by simp [AV.cells]) (by simp only [zJa, zOa, List.length_nil]; omega) ?_
       simp -dsimp only [Vm.G, zA, zB, zC, zD, zE, zF, q81.1]
       refine kept_intro ⟨l.length - (i + 1), by omega, _, le_mk [(1, .v (.int .u8 tag.toNat)), (5, .own true 3 1 ((allF (l.take (i + 1))).map encI)), (6, .own true 132 2 (l.map kvAv)), (7, .v (.int .i64 (i + 1 : Nat)))] ?_, i + 1, by omega, rfl, rfl⟩
       simp only [Vm.D, hw, est, Option.toList, zJb, zTa, zKb, encI]
       try simp -dsimp only [Vm.G, zA, zB, zC, zD, zE, zF, q81.1, hw, est, Option.toList, zJb, zTa, zKb, encI]
       repeat' first | exact .refl _ | exact .nil _ _ _ (by decide) | refine ⟨?_, ?_⟩
   · have hge : ¬ i < l.length := by have := of_decide_eq_false hcc; omega
     simp -dsimp only [Vm.G, zA, zB, zC, zD, zE, zF, q81.1]
     rw [List.take_of_length_le (by omega)]
     exact hq l hsc hln
def rcFundsSpec : Vm.Spec := fun args h Q => ∃ (R : RId) (f : Fun), args = [.ptr R.iv 0] ∧ isRef h R f ∧ f.n ≤ 536870912 ∧
 ∀ l, ScanIs f [70] l → l.length ≤ f.n → Q (.own true 3 1 ((allF l).map encI)) h
theorem does_rcFunds : Does Tryz.prog 73 rcFundsSpec := by
 refine dA (good_cons does_rcAll good_nil) Tryz.func73 rfl (by decide +kernel) ?_
 rintro args h Q ⟨R, f, rfl, hR, hn, hq⟩
 refine ⟨by simp [Tryz.f73], ?_⟩
 simp -dsimp only [Vm.G, zA, zB, zC, zD, zE, zF, q73.1]
 refine call_one (S := rcAllSpec) rfl _ GaL.rfl ⟨R, f, 70, rfl, hR, hn, fun l hsc hln => ?_⟩
 simp -dsimp only [Vm.G, zA, zB, zC, zD, zE, zF, q73.1]
 exact hq l hsc hln
def rcNewSpec : Vm.Spec := fun args h Q => ∃ (R : RId) (f : Fun) (n : Int) (s : List UInt8), s.length ≤ 1073741824 ∧ args = [.ptr R.iv 0, .v (.int .i64 n), .v (.string ⟨s.toArray⟩)] ∧ isRef h R f ∧ f.n ≤ 536870912 ∧
 ∀ h', isRef h' R (newFund f n s).1 → Same h h' (rFoot R) → Q (.v (.int .i64 (newFund f n s).2)) h'
theorem does_rcNew : Does Tryz.prog 25 rcNewSpec := by
 refine dA (good_cons does_rFundP (good_cons does_rName (good_cons does_rcFund (good_cons does_rcFunds (good_cons does_rKey (good_cons does_rPut good_nil)))))) Tryz.func25 rfl (by decide +kernel) ?_
 rintro args h Q ⟨R, f, n, s, hsl, rfl, hR, hn, hq⟩
 refine ⟨by simp [Tryz.f25], ?_⟩
 unfold newFund at hq
 simp -dsimp only [Vm.G, zA, zB, zC, zD, zE, zF, q25.1]
 refine call_one (S := predSpec fundP) rfl _ GaL.rfl ⟨n, rfl, ?_⟩
 cases c1 : fundP n
 · rw [if_neg (by rw [c1]; simp)] at hq
   simp -dsimp only [Vm.G, zA, zB, zC, zD, zE, zF, q25.1]
   exact hq h hR (.refl _ _)
 · simp -dsimp only [Vm.G, zA, zB, zC, zD, zE, zF, q25.1]
   refine call_one (S := nameSpec) rfl _ GaL.rfl ⟨s, hsl, rfl, ?_⟩
   cases c2 : nameOk s
   · rw [if_neg (by rw [c2]; simp)] at hq
     simp -dsimp only [Vm.G, zA, zB, zC, zD, zE, zF, q25.1]
     exact hq h hR (.refl _ _)
   · rw [if_pos ⟨c1, c2⟩] at hq
     have hsl2 := name_len c2
     simp -dsimp only [Vm.G, zA, zB, zC, zD, zE, zF, q25.1]
     refine call_one (S := rcFundSpec) rfl _ GaL.rfl ⟨R, f, n, rfl, hR, hn, fun q hf => ?_, fun hf => ?_⟩
     · rw [if_pos (by rw [hf]; simp)] at hq
       simp -dsimp only [Vm.G, zA, zB, zC, zD, zE, zF, q25.1]
       exact hq h hR (.refl _ _)
     · rw [if_neg (by rw [hf]; simp)] at hq
       simp -dsimp only [Vm.G, zA, zB, zC, zD, zE, zF, q25.1]
       refine call_one (S := rcFundsSpec) rfl _ GaL.rfl ⟨R, f, rfl, hR, hn, fun l hsc hln => ?_⟩
       simp -dsimp only [Vm.G, zA, zB, zC, zD, zE, zF, q25.1, zJa]
       cases c4 : decide (((allF l).length : Int) ≥ 40)
       · have d4 := of_decide_eq_false c4
         rw [if_neg (by rw [many_iff hsc]; omega)] at hq
         simp -dsimp only [Vm.G, zA, zB, zC, zD, zE, zF, q25.1]
         refine bs_intro zr3 (by decide) (by decide) rfl rfl (by simp [solid, AV.cells]) ?_
         simp -dsimp only [Vm.G, zA, zB, zC, zD, zE, zF, q25.1]
         refine call_one (S := keySpec) rfl _ GaL.rfl ⟨70, [n], by simp, rfl, ?_⟩
         simp -dsimp only [Vm.G, zA, zB, zC, zD, zE, zF, q25.1]
         refine cvX_bytes bt123 Tryz.underlying9 (by rw [size_mk]; unfold maxLen; omega) ?_
         simp -dsimp only [Vm.G, zA, zB, zC, zD, zE, zF, q25.1]
         refine call_one (S := rPutSpec) rfl _ GaL.rfl ⟨R, f, fundK n, s, rfl, hR, hn, fun _ h2 g1 g2 => ?_, fun hc => by rw [right_fund c2] at hc; cases hc⟩
         simp -dsimp only [Vm.G, zA, zB, zC, zD, zE, zF, q25.1]
         exact hq h2 g1 g2
       · have d4 := of_decide_eq_true c4
         rw [if_pos ((many_iff hsc).2 (by omega))] at hq
         simp -dsimp only [Vm.G, zA, zB, zC, zD, zE, zF, q25.1]
         exact hq h hR (.refl _ _)
theorem bool_eql {a b : Bool} {KV : Value → Prop} : awpBin Tryz.prog .eql 4 (.v (.bool a)) (.v (.bool b)) KV = KV (.bool (a == b)) := by simp [awpBin, Tryz.underlying4]
end Go.Proofs.Lx
namespace Go.Proofs.Lx
open Go.Vm Go.RowKit
theorem putRow_heap {α : Type} [Inhabited α] (enc : α → Value) (w : World) (b n : Nat) (d : Array α) (os : Array Obj) :
   (∀ k, k < w.heap.size → k ≠ b → (Sort.grow (Sort.putRow enc (Sort.ahead w n) b 0 d) os).heap[k]? = w.heap[k]?) ∧ w.heap.size ≤ (Sort.grow (Sort.putRow enc (Sort.ahead w n) b 0 d) os).heap.size ∧
     ∀ vs e fr, w.heap[b]? = some (.cells vs e fr) → (Sort.grow (Sort.putRow enc (Sort.ahead w n) b 0 d) os).heap[b]? = some (.cells (Sort.putCells enc 0 d vs) e fr) := by
 have hs : (Sort.putRow enc (Sort.ahead w n) b 0 d).heap.size = w.heap.size := by simp [Sort.putRow, Sort.mapBlock, Sort.ahead]
 have hg : ∀ k, k < w.heap.size → (Sort.grow (Sort.putRow enc (Sort.ahead w n) b 0 d) os).heap[k]? = (w.heap.modify b (Sort.onCells (Sort.putCells enc 0 d)))[k]? := fun k hk => by
   show ((Sort.putRow enc (Sort.ahead w n) b 0 d).heap ++ os)[k]? = _
   rw [Array.getElem?_append_left (by rw [hs]; exact hk)]; rfl
 refine ⟨fun k hk hne => ?_, ?_, fun vs e fr hb => ?_⟩
 · rw [hg k hk, Array.getElem?_modify, if_neg (fun e => hne e.symm)]
 · show w.heap.size ≤ ((Sort.putRow enc (Sort.ahead w n) b 0 d).heap ++ os).size
   rw [Array.size_append, hs]; omega
 · rw [hg b (lt_of_heap hb), Array.getElem?_modify, if_pos rfl, hb]; rfl
def vAv {α : Type} (enc : α → Value) (x : α) : AV := .v (enc x)
theorem flat_v {α : Type} (enc : α → Value) (l : List α) : flat (l.map (vAv enc)) = l.map (vAv enc) := by
 unfold flat
 induction l with
 | nil => rfl
 | cons x r ih => rw [zTa, List.flatMap_cons, ih]; rfl
def sortVSpec {α : Type} (enc : α → Value) (R : List α → Prop) : Vm.Spec := fun args h Q => ∃ (l : List α) (h0 : Heap) (c e : Nat), args = [.osl h0.length 0 l.length c] ∧ h = h0 ++ [.row e (c * 1) (flat (l.map (vAv enc)))] ∧ l.length < 4611686018427387904 ∧ l.length ≤ c ∧
 ∀ l' : List α, l'.Perm l → R l' → Q (.tup []) (h0 ++ [.row e (c * 1) (flat (l'.map (vAv enc)))])
theorem does_sortV {α : Type} [Inhabited α] {f : FuncId} {R : List α → Prop} (enc : α → Value) (hp : ∀ x, plain (enc x) = true) (h1 : ∀ x, (enc x).oneCell' = true) (hcall : Callable Tryz.prog f)
   (key : ∀ (blk cap : Nat) (l : List α) (w : World), Sort.Holds enc w blk 0 l.toArray → blk < w.heap.size → l.length < 4611686018427387904 →
     Calls Tryz.prog f #[.slice (some ⟨blk, 0, none⟩) l.length cap] w fun e w' => e = .returned (.tuple #[]) ∧ ∃ (n : Nat) (os : Array Obj) (l' : List α), (l'.Perm l ∧ R l') ∧ w' = Sort.grow (Sort.putRow enc (Sort.ahead w n) blk 0 l'.toArray) os) :
   Does Tryz.prog f (sortVSpec enc R) := by
 refine ⟨hcall, ?_⟩
 rintro args h Q ⟨l, h0, c, e, rfl, rfl, hln, hlc, hq⟩ w g vs hvs hrep hh hfr hlaid
 have hm : h0.length < g.n := by rw [← hh.n]; simp
 generalize hb : g.loc h0.length = b
 have hrow : RowE w g e (c * 1) (flat (l.map (vAv enc))) b := by
   have : ObjRep w g (.row e (c * 1) (flat (l.map (vAv enc)))) (g.loc h0.length) := hh.obj h0.length _ (heap_last _ _)
   rw [hb] at this; exact this
 have hblt : b < w.heap.size := by rw [← hb]; exact hh.lt _ hm
 have hv0 : vs.getD 0 undef = .slice (some ⟨b, 0, none⟩) l.length c := by
   have := hrep 0 _ rfl
   generalize vs.getD 0 undef = v at this
   cases this with | osl => rw [hb]
 have hvs2 : vs = #[.slice (some ⟨b, 0, none⟩) l.length c] := by
   have h2 : vs.size = 1 := hvs
   apply Array.ext
   · simpa using h2
   · intro i hi1 hi2
     have : i = 0 := by omega
     subst this
     simpa [Array.getD, h2] using hv0
 subst hvs2
 obtain ⟨cur, a1, a2, a3, a4, a5, a6⟩ := hrow
 have hfl : (flat (l.map (vAv enc))).length = l.length := by rw [flat_v, zJa]
 have hcur : ∀ j (hj : j < l.length), cur.getD j undef = enc l[j] := fun j hj => by
   have := a6 j (vAv enc l[j]) (by rw [flat_v, List.getElem?_map, zNa hj]; rfl)
   exact (rep_v this).1
 have hH : Sort.Holds enc w b 0 l.toArray := fun j hj => by
   have hj : j < l.length := by simpa using hj
   have hjc : j < cur.size := by omega
   rw [Nat.zero_add]
   refine ⟨?_, ?_⟩
   · rw [cell_of_row w b j cur e (0, 0) a1]
     have := hcur j hj
     have e2 : (l.toArray)[j]! = l[j] := by rw [getElem!_pos l.toArray j (by simpa using hj)]; simp
     rw [e2, ← this]
     simp [Array.getD, hjc]
   · simp [World.frozen?, a1]
 refine (key b c l w hH hblt hln).mono ?_
 rintro e' w' ⟨rfl, n, os, l', ⟨hperm, hR⟩, rfl⟩
 obtain ⟨q1, q2, q3⟩ := putRow_heap enc w b n l'.toArray os
 have hlen : l'.length = l.length := hperm.length_eq
 generalize hW : Sort.grow (Sort.putRow enc (Sort.ahead w n) b 0 l'.toArray) os = w' at q1 q2 q3
 have hos : w'.os = w.os ∧ w'.tape = w.tape ∧ w'.output = w.output := by rw [← hW]; exact ⟨rfl, rfl, rfl⟩
 have hk : Keeps w g w' g := ⟨fun _ => zNb _, fun k j v hj hv => by
   have hkb : k ≠ b := fun e => by rw [e, a4] at hj; omega
   have hkl : k < w.heap.size := by
     rcases Nat.lt_or_ge k w.heap.size with h | h
     · exact h
     · rw [hfr k h] at hj; omega
   rw [World.cell?_of_block (a := ⟨k, j, none⟩) (q1 k hkl hkb)]; exact hv, zNb _, fun _ _ => rfl⟩
 have hrow' : RowE w' g e (c * 1) (flat (l'.map (vAv enc))) b := by
   have hnew : ∀ j (hj : j < l'.length), (Sort.putCells enc 0 l'.toArray cur).getD j undef = enc l'[j] := fun j hj => by
     have hjc : j < cur.size := by omega
     have e2 : (l'.toArray)[j]! = l'[j] := by rw [getElem!_pos l'.toArray j (by simpa using hj)]; simp
     rw [← e2]
     simp only [Sort.putCells]
     simp [Array.getD, hjc, hj]
   refine ⟨_, q3 cur e (0, 0) a1, by simp [Sort.putCells, a2], by rw [flat_v, zJa]; omega, a4, fun j hj => ?_, fun j u hu => ?_⟩
   · rw [flat_v, zJa] at hj
     rw [hnew j hj]; exact h1 _
   · rw [flat_v, List.getElem?_map] at hu
     have hj : j < l'.length := by
       rcases Nat.lt_or_ge j l'.length with h | h
       · exact h
       · rw [List.getElem?_eq_none h] at hu; cases hu
     rw [zNa hj] at hu
     cases hu
     rw [hnew j hj]
     exact .v (hp _)
 refine ⟨.tup [], h0 ++ [.row e (c * 1) (flat (l'.map (vAv enc)))], g, .tuple #[], hq l' hperm hR, rfl, .tup rfl (fun j u hu => by simp at hu), ?_, ?_, zNb _, fun _ _ => rfl, fun _ _ => rfl, fun i hi h1 => by omega, fun k hk' => hfr k (Nat.le_trans q2 hk')⟩
 · refine ⟨by rw [← hh.n]; simp, fun i hi => Nat.lt_of_lt_of_le (hh.lt i hi) q2, hh.inj, fun i o ho => ?_⟩
   rcases Nat.lt_or_ge i h0.length with hi | hi
   · rw [List.getElem?_append_left hi] at ho
     have hig : i < g.n := by omega
     have hne : g.loc i ≠ b := fun e => by
       have := hh.inj i h0.length hig hm (e.trans hb.symm)
       omega
     exact (hh.obj i o (by rw [List.getElem?_append_left hi]; exact ho)).keepAt hk ⟨q1 _ (hh.lt i hig) hne, rfl⟩
   · have hie : i = h0.length := by
       rcases Nat.lt_or_ge i (h0.length + 1) with h | h
       · omega
       · rw [List.getElem?_eq_none (by simp; omega)] at ho; cases ho
     subst hie
     rw [heap_last] at ho
     cases ho
     show RowE _ _ _ _ _ (g.loc h0.length)
     rw [hb]; exact hrow'
 · exact ⟨hos.1, hos.2.1, hos.2.2, q2, fun k hk' hno => q1 k hk' fun e => hno _ hm (hb.trans e.symm)⟩
def sortVNil : Vm.Spec := fun args h Q => args = [.v (.slice none 0 0)] ∧ Q (.tup []) h
theorem does_sortVNil {f : FuncId} (hcall : Callable Tryz.prog f) (key : ∀ w : World, Calls Tryz.prog f #[.slice none 0 0] w fun e w' => e = .returned (.tuple #[]) ∧ w' = w) : Does Tryz.prog f sortVNil := by
 refine ⟨hcall, ?_⟩
 rintro args h Q ⟨rfl, hq⟩ w g vs hvs hrep hh hfr hlaid
 have hv0 : vs.getD 0 undef = .slice none 0 0 := (rep_v (hrep 0 _ rfl)).1
 have hvs2 : vs = #[.slice none 0 0] := by
   have h2 : vs.size = 1 := hvs
   apply Array.ext
   · simpa using h2
   · intro i hi1 hi2
     have : i = 0 := by omega
     subst this
     simpa [Array.getD, h2] using hv0
 rw [hvs2]
 refine (key w).mono ?_
 rintro e' w' ⟨rfl, rfl⟩
 exact ⟨.tup [], h, g, .tuple #[], hq, rfl, .tup rfl (fun j u hu => by simp at hu), hh, ⟨rfl, rfl, rfl, zNb _, fun _ _ _ => rfl⟩, zNb _, fun _ _ => rfl, fun _ _ => rfl, fun i hi h1 => by omega, hfr⟩
theorem does_sortS : Does Tryz.prog 160 (orS (sortVSpec strK fun _ => True) sortVNil) :=
 have hc : Callable Tryz.prog 160 := ⟨Tryz.f160, Tryz.func160, by kernel_rfl, by decide +kernel⟩
 does_or (does_sortV strK (fun _ => rfl) (fun _ => rfl) hc fun blk cap l w hH hb hl => (Any.slices_Sort_string Tryz.sortStr blk 0 cap l w hH hb hl).mono fun e w' ⟨h1, n, os, h2⟩ => ⟨h1, n, os, _, ⟨List.mergeSort_perm .., trivial⟩, h2⟩)
   (does_sortVNil hc fun w => Any.slices_Sort_string_none Tryz.sortStr none 0 w)
end Go.Proofs.Lx
namespace Go.Proofs.Lx
open Go.Vm
attribute [local irreducible] awpArr awpBin awpMake awpAppend awpCvX awpStrOf awpBinX awpSlice awpBS awpStore awpAlloc awpCopy awpIndex awpDraw awpIdxX awpFa awpField awpLookup awpUpdate awpDelete awpClear awpRange awpNext awpEntry awpBuild awpClearS awpIdxL awpTree appB awpIdxO eltA treeA
theorem flat_ints (l : List Int) : flat (l.map encI) = l.map encI := by
 induction l with
 | nil => rfl
 | cons x r ih =>
   show encI x :: flat (r.map encI) = _
   rw [ih]; rfl
def ixISpec (T : Tab) : Vm.Spec := fun args h Q => ∃ (g : FuncId) (p : Int → Bool) (l : List Int) (id c e m : Nat), T g = some (predSpec p) ∧ args = [.osl id 0 l.length c, .clo g []] ∧ h[id]? = some (.row e m (l.map encI)) ∧ l.length ≤ 4611686018427387904 ∧ (∀ x ∈ l, p x = false) ∧ Q (.v (.int .i64 (-1))) h
theorem does_ixI {T : Tab} (hT : Good T) : Does Tryz.prog 205 (ixISpec T) := by
 refine dA hT Tryz.func205 rfl (by decide +kernel) ?_
 rintro args h Q ⟨g, p, l, id, c, e, m, hg, rfl, hh, hl, hp, hq⟩
 refine ⟨by simp [Tryz.f205], ?_⟩
 simp -dsimp only [Vm.G, zA, zB, zC, zD, zE, zF, q205.1]
 refine awp_loop (fun m s h' => ∃ i : Nat, i + m = l.length ∧ h' = h ∧ s = mk [(0, .osl id 0 l.length c), (1, .clo g []), (7, .v (.int .i64 l.length)), (8, .v (.int .i64 (i : Nat)))])
   l.length _ (le_mk _ ?_) ⟨0, by omega, rfl, rfl⟩ ?_
 · simp only [Vm.D]
   try simp -dsimp only [Vm.G, zA, zB, zC, zD, zE, zF, q205.1]
   repeat' first | exact .refl _ | exact .nil _ _ _ (by decide) | refine ⟨?_, ?_⟩
 · rintro m s h' ⟨i, hi, rfl, rfl⟩
   simp -dsimp only [Vm.G, zA, zB, zC, zD, zE, zF, q205.1]
   refine cond_intro (fun hcc => ?_) (fun hcc => ?_)
   · have hlt : i < l.length := by have := of_decide_eq_true hcc; omega
     have hw := hwN i (by omega)
     have hd : (l.map encI).drop i = encI l[i] :: (l.map encI).drop (i + 1) := by
       rw [zIb (by rw [zJa]; exact hlt), List.getElem_map]
     have hpx := hp l[i] (zMa hlt)
     generalize l[i] = x at hd hpx
     simp -dsimp only [Vm.G, zA, zB, zC, zD, zE, zF, q205.1]
     refine idxL_intro (by omega) (by omega) ?_
     simp -dsimp only [Vm.G, zA, zB, zC, zD, zE, zF, q205.1, hh, zVa, Nat.mul_one, hd, encI]
     refine call_one (S := predSpec p) hg _ GaL.rfl ⟨x, rfl, ?_⟩
     rw [hpx]
     simp -dsimp only [Vm.G, zA, zB, zC, zD, zE, zF, q205.1]
     refine kept_intro ⟨l.length - (i + 1), by omega, _, le_mk [(0, .osl id 0 l.length c), (1, .clo g []), (7, .v (.int .i64 l.length)), (8, .v (.int .i64 (i + 1 : Nat)))] ?_, i + 1, by omega, rfl, rfl⟩
     simp only [Vm.D, hw]
     try simp -dsimp only [Vm.G, zA, zB, zC, zD, zE, zF, q205.1, hw]
     repeat' first | exact .refl _ | exact .nil _ _ _ (by decide) | refine ⟨?_, ?_⟩
   · simp -dsimp only [Vm.G, zA, zB, zC, zD, zE, zF, q205.1]
     exact hq
def ixINil : Vm.Spec := fun args h Q => ∃ g, args = [.v (.slice none 0 0), .clo g []] ∧ Q (.v (.int .i64 (-1))) h
theorem does_ixINil : Does Tryz.prog 205 ixINil := by
 refine dA good_nil Tryz.func205 rfl (by decide +kernel) ?_
 rintro args h Q ⟨g, rfl, hq⟩
 refine ⟨by simp [Tryz.f205], ?_⟩
 simp -dsimp only [Vm.G, zA, zB, zC, zD, zE, zF, q205.1]
 refine awp_loop (fun m' s h' => h' = h ∧ s = mk [(7, .v (.int .i64 0)), (8, .v (.int .i64 0))]) 0 _ (le_mk _ ?_) ⟨rfl, rfl⟩ ?_
 · simp only [Vm.D]
   try simp -dsimp only [Vm.G, zA, zB, zC, zD, zE, zF, q205.1]
   repeat' first | exact .refl _ | exact .nil _ _ _ (by decide) | refine ⟨?_, ?_⟩
 · rintro m' s h' ⟨rfl, rfl⟩
   simp -dsimp only [Vm.G, zA, zB, zC, zD, zE, zF, q205.1]
   refine cond_intro (fun hcc => ?_) (fun hcc => ?_)
   · have := of_decide_eq_true hcc
     omega
   · simp -dsimp only [Vm.G, zA, zB, zC, zD, zE, zF, q205.1]
     exact hq
def delISpec (T : Tab) : Vm.Spec := fun args h Q => ∃ (g : FuncId) (p : Int → Bool) (l : List Int) (id c e m : Nat), T g = some (predSpec p) ∧ args = [.osl id 0 l.length c, .clo g []] ∧ h[id]? = some (.row e m (l.map encI)) ∧ l.length ≤ 4611686018427387904 ∧ (∀ x ∈ l, p x = false) ∧ Q (.osl id 0 l.length c) h
theorem does_delI {T T2 : Tab} (hT : Good T) (hg0 : T 205 = some (orS (ixISpec T2) ixINil)) : Does Tryz.prog 154 (delISpec T2) := by
 refine dA hT Tryz.func154 rfl (by decide +kernel) ?_
 rintro args h Q ⟨g, p, l, id, c, e, m, hg, rfl, hh, hl, hp, hq⟩
 refine ⟨by simp [Tryz.f154], ?_⟩
 simp -dsimp only [Vm.G, zA, zB, zC, zD, zE, zF, q154.1]
 refine call_one (S := orS (ixISpec T2) ixINil) hg0 _ GaL.rfl (.inl ⟨g, p, l, id, c, e, m, hg, rfl, hh, hl, hp, ?_⟩)
 simp -dsimp only [Vm.G, zA, zB, zC, zD, zE, zF, q154.1, beq_self_eq_true]
 exact hq
def delINil : Vm.Spec := fun args h Q => ∃ g, args = [.v (.slice none 0 0), .clo g []] ∧ Q (.v (.slice none 0 0)) h
theorem does_delINil {T T2 : Tab} (hT : Good T) (hg0 : T 205 = some (orS (ixISpec T2) ixINil)) : Does Tryz.prog 154 delINil := by
 refine dA hT Tryz.func154 rfl (by decide +kernel) ?_
 rintro args h Q ⟨g, rfl, hq⟩
 refine ⟨by simp [Tryz.f154], ?_⟩
 simp -dsimp only [Vm.G, zA, zB, zC, zD, zE, zF, q154.1]
 refine call_one (S := orS (ixISpec T2) ixINil) hg0 _ GaL.rfl (.inr ⟨g, rfl, ?_⟩)
 simp -dsimp only [Vm.G, zA, zB, zC, zD, zE, zF, q154.1, beq_self_eq_true]
 exact hq
def objP (n : Int) : Bool := decide (1000 ≤ n) && decide (n ≤ 5999)
theorem does_objP : Does Tryz.prog 76 (predSpec objP) := by
 refine dA (good_cons does_withinC good_nil) Tryz.func76 rfl (by decide +kernel) ?_
 rintro args h Q ⟨n, rfl, hq⟩
 refine ⟨by simp [Tryz.f76], ?_⟩
 unfold objP at hq
 simp -dsimp only [Vm.G, zA, zB, zC, zD, zE, zF, q76.1]
 refine call_one (S := withinSpec) rfl _ GaL.rfl ⟨n, 1000, 5999, rfl, ?_⟩
 simp -dsimp only [Vm.G, zA, zB, zC, zD, zE, zF, q76.1]
 exact hq
def cOwnSpec : Vm.Spec := fun args h Q => ∃ (V : VId) (f : Fun), args = [.ptr V.iv 0] ∧ isView h V f ∧ f.n ≤ 536870912 ∧ (∀ l, ScanIs f [79] l → ∀ x ∈ allF l, fixedP x = false) ∧
 ∀ l h', ScanIs f [79] l → l.length ≤ 2 * f.n → isView h' V f → Same h h' [] → Q (.own true 3 1 ((allF l).map encI)) h'
def cNewObjSpec : Vm.Spec := fun args h Q => ∃ (V : VId) (f : Fun) (n : Int), args = [.ptr V.iv 0, .v (.int .i64 n)] ∧ isView h V f ∧ f.n ≤ 536870912 ∧ objP n = true ∧ objOk f n = false ∧ (∀ l, ScanIs f [79] l → allF l = []) ∧
 ∀ h', isView h' V (upd f (objK n) (some [])) → Same h h' [V.ic] → Q (.v (.int .i64 0)) h'
end Go.Proofs.Lx
namespace Go.Proofs.Lx
open Go.Vm
def limitF (f : Fun) (n : Nd) (to g : Int) : Fun × Bool × Int :=
 if to < 0 ∨ to > 1152921504606846976 then (f, false, 9)
 else if g > to ∨ (n.abs = true ∧ usedOf n > to) then (f, false, 11)
 else (upd f (ndK { n with limit := to }) (some (ndV { n with limit := to })), decide (usedOf n > to), 0)
def classOf (o : Int) : Int := if objP o = true then o.tdiv 1000 else 0
def fairN (n : Nd) : Int := if n.id < 1 ∨ n.id > 999 then 1 else if n.limit < 0 ∨ n.limit > 9007199254740992 then 1 else if classOf n.obj ≠ 5 then 1 else 0
def knownN (f : Fun) (n : Nd) : Bool := (f (fundK n.fund)).isSome && (objOk f n.obj && ((n.parent == 0) || (nodeAt f n.year n.parent).isSome))
def belowN (f : Fun) (n : Nd) (g : Int) : Int :=
 if n.parent = 0 then 0 else if 8 ≤ (pathOf f n.year 8 n.parent).length then 1 else if w64 (g + n.limit) > ((pathOf f n.year 8 n.parent).headD .zero).limit then 11 else 0
def bareOf (n : Nd) : Nd := { n with pre := 0, enc := 0, exp := 0, lapsed := 0, carried := 0 }
def shiftNew (f : Fun) (n : Nd) (g : Int) : Fun × Int :=
 if checkY f n.year ≠ 0 then (f, checkY f n.year)
 else if fairN n ≠ 0 then (f, fairN n)
 else if knownN f n = false then (f, 7)
 else if (nodeAt f n.year n.id).isSome = true then (f, 8)
 else if belowN f n g ≠ 0 then (f, belowN f n g)
 else (upd f (ndK (bareOf n)) (some (ndV (bareOf n))), 0)
def amendF (f : Fun) (year id more g k : Int) : Fun × Bool × Int :=
 if checkY f year ≠ 0 then (f, false, checkY f year)
 else if more > 9007199254740992 ∨ more < -9007199254740992 then (f, false, 9)
 else match nodeAt f year id with
   | none => (f, false, 7)
   | some n => match nodeAt f year n.parent with
     | some up => if w64 (g + more) > up.limit then (f, false, 11) else limitF f n (w64 (n.limit + more)) k
     | none => limitF f n (w64 (n.limit + more)) k
def moveF (f : Fun) (year frm to part ka kz : Int) : Fun × Bool × Int :=
 if checkY f year ≠ 0 then (f, false, checkY f year)
 else if rightA part = false ∨ frm = to then (f, false, 1)
 else match nodeAt f year frm, nodeAt f year to with
   | some a, some z => if a.parent ≠ z.parent then (f, false, 12)
     else if (limitF f a (w64 (a.limit - part)) ka).2.2 ≠ 0 then ((limitF f a (w64 (a.limit - part)) ka).1, false, (limitF f a (w64 (a.limit - part)) ka).2.2)
     else ((limitF (limitF f a (w64 (a.limit - part)) ka).1 z (w64 (z.limit + part)) kz).1, (limitF (limitF f a (w64 (a.limit - part)) ka).1 z (w64 (z.limit + part)) kz).2.2 == 0 && ((limitF f a (w64 (a.limit - part)) ka).2.1 || (limitF (limitF f a (w64 (a.limit - part)) ka).1 z (w64 (z.limit + part)) kz).2.1), (limitF (limitF f a (w64 (a.limit - part)) ka).1 z (w64 (z.limit + part)) kz).2.2)
   | _, _ => (f, false, 7)
theorem limit_ok {n : Nd} {to : Int} (h : n.ok) (ht : 0 ≤ to ∧ to ≤ 1152921504606846976) : Nd.ok { n with limit := to } := by
 obtain ⟨h1, h2, h3, h4, h5, h6, h7, h8, h9, h10, h11⟩ := h
 exact ⟨h1, h2, h3, h4, h5, by show I64 to; unfold I64; omega, h7, h8, h9, h10, h11⟩
theorem limit_holds {y : Int} {N : List Nd} {f : Fun} {n : Nd} {to : Int} (hy : InR y) (h : NodesAre y N f) (hN : HoldN N) (hn : n ∈ N) (he : (limitF f n to (under N n.id)).2.2 = 0)
   (hp : ∀ p ∈ N, p.id = n.parent → under N p.id + (to - n.limit) ≤ p.limit) :
   NodesAre y (putAt N { n with limit := to }) (limitF f n to (under N n.id)).1 ∧ HoldN (putAt N { n with limit := to }) ∧ under N n.id ≤ to ∧ ∀ i, under (putAt N { n with limit := to }) i = under N i + (if n.parent = i then to - n.limit else 0) := by
 unfold limitF at he ⊢
 split
 · rename_i h1; rw [if_pos h1] at he; simp at he
 · rename_i h1
   rw [if_neg h1] at he
   split
   · rename_i h2; rw [if_pos h2] at he; simp at he
   · rename_i h2
     have ht : 0 ≤ to ∧ to ≤ 1152921504606846976 := by omega
     obtain ⟨b1, b2, b3⟩ := h.2.1 n hn
     have hk : under N n.id ≤ to := by
       refine Classical.byContradiction fun hc => h2 (.inl (by omega))
     have ha : n.abs = true → usedOf n ≤ to := fun ha => by
       refine Classical.byContradiction fun hc => h2 (.inr ⟨ha, by omega⟩)
     obtain ⟨g1, g2⟩ := hold_limit hN h.1 hn ht hk ha hp
     exact ⟨nodes_put (n := { n with limit := to }) hy h b1 b2 (limit_ok b3 ht) ⟨n, hn, rfl⟩, g1, hk, g2⟩
theorem amend_holds {N : List Nd} {f : Fun} {id more g k : Int} (h : NodesAre 2020 N f) (hN : HoldN N) (hg : ∀ n, nodeAt f 2020 id = some n → ∀ up, nodeAt f 2020 n.parent = some up → g = under N up.id) (hk : k = under N id) (he : (amendF f 2020 id more g k).2.2 = 0) :
   ∃ N', NodesAre 2020 N' (amendF f 2020 id more g k).1 ∧ HoldN N' := by
 have hy : InR 2020 := ⟨by omega, by omega⟩
 unfold amendF at he ⊢
 by_cases h1 : checkY f 2020 ≠ 0
 · rw [if_pos h1] at he; exact absurd he h1
 · rw [if_neg h1] at he ⊢
   by_cases h2 : more > 9007199254740992 ∨ more < -9007199254740992
   · rw [if_pos h2] at he; simp at he
   · rw [if_neg h2] at he ⊢
     cases hn : nodeAt f 2020 id with
     | none => rw [hn] at he; simp at he
     | some n =>
       rw [hn] at he
       simp only at he ⊢
       obtain ⟨hm, hid⟩ := (nodes_at hy h).1 hn
       obtain ⟨c1, ⟨c2, c2'⟩, c3, c4, c5, c6⟩ := hN n hm
       have hw : w64 (n.limit + more) = n.limit + more := wrap_i64 (by omega) (by omega)
       rw [hw] at he ⊢
       subst hid
       subst hk
       cases hu : nodeAt f 2020 n.parent with
       | none =>
         rw [hu] at he
         simp only at he ⊢
         obtain ⟨r1, r2, -⟩ := limit_holds hy h hN hm he fun p hp e => absurd e ((nodes_none hy h).1 hu p hp)
         exact ⟨_, r1, r2⟩
       | some up =>
         rw [hu] at he
         simp only at he ⊢
         obtain ⟨um, ui⟩ := (nodes_at hy h).1 hu
         have hgu := hg n hn up hu
         obtain ⟨-, ⟨-, d2⟩, -, d4, -⟩ := hN up um
         have d0 := under_pos (fun n hn => (hN n hn).2.1.1) up.id
         have hw2 : w64 (g + more) = g + more := wrap_i64 (by omega) (by omega)
         rw [hw2] at he ⊢
         by_cases h3 : g + more > up.limit
         · rw [if_pos h3] at he; simp at he
         · rw [if_neg h3] at he ⊢
           obtain ⟨r1, r2, -⟩ := limit_holds hy h hN hm he fun p hp e => by
             have : p = up := ids_same h.1 hp um (by rw [e, ui])
             subst this
             omega
           exact ⟨_, r1, r2⟩
theorem move_holds {N : List Nd} {f : Fun} {frm to part ka kz : Int} (h : NodesAre 2020 N f) (hN : HoldN N) (hka : ka = under N frm) (hkz : ∀ a, nodeAt f 2020 frm = some a → ∀ N1, NodesAre 2020 N1 (limitF f a (w64 (a.limit - part)) ka).1 → HoldN N1 → (∃ p ∈ N1, p.id = to) → kz = under N1 to) (he : (moveF f 2020 frm to part ka kz).2.2 = 0) :
   ∃ N', NodesAre 2020 N' (moveF f 2020 frm to part ka kz).1 ∧ HoldN N' := by
 have hy : InR 2020 := ⟨by omega, by omega⟩
 unfold moveF at he ⊢
 by_cases h1 : checkY f 2020 ≠ 0
 · rw [if_pos h1] at he; exact absurd he h1
 · rw [if_neg h1] at he ⊢
   by_cases h2 : rightA part = false ∨ frm = to
   · rw [if_pos h2] at he; simp at he
   · rw [if_neg h2] at he ⊢
     have hne : frm ≠ to := fun e => h2 (.inr e)
     have hpr : 1 ≤ part ∧ part ≤ 9007199254740992 := by
       have : rightA part = true := by
         cases hr : rightA part with
         | true => rfl
         | false => exact absurd (.inl hr) h2
       unfold rightA at this
       simpa using this
     cases hn : nodeAt f 2020 frm with
     | none => rw [hn] at he; simp at he
     | some a =>
       cases hz : nodeAt f 2020 to with
       | none => rw [hn, hz] at he; simp at he
       | some z =>
         rw [hn, hz] at he
         simp only at he ⊢
         obtain ⟨am, ai⟩ := (nodes_at hy h).1 hn
         obtain ⟨zm, zi⟩ := (nodes_at hy h).1 hz
         by_cases h3 : a.parent ≠ z.parent
         · rw [if_pos h3] at he; simp at he
         · rw [if_neg h3] at he ⊢
           have hpar : a.parent = z.parent := by simpa using h3
           obtain ⟨-, ⟨a2, a2'⟩, -, -, -, -⟩ := hN a am
           obtain ⟨-, ⟨z2, z2'⟩, -, -, -, -⟩ := hN z zm
           have hw : w64 (a.limit - part) = a.limit - part := wrap_i64 (by omega) (by omega)
           have hw2 : w64 (z.limit + part) = z.limit + part := wrap_i64 (by omega) (by omega)
           rw [hw, hw2] at he ⊢
           subst ai
           subst zi
           have hkz := hkz a hn
           rw [hw] at hkz
           subst hka
           by_cases h4 : (limitF f a (a.limit - part) (under N a.id)).2.2 ≠ 0
           · rw [if_pos h4] at he; exact absurd he h4
           · rw [if_neg h4] at he ⊢
             simp only at he ⊢
             obtain ⟨r1, r2, r3, r4⟩ := limit_holds hy h hN am (by simpa using h4) fun p hp e => by
               have := (hN p hp).2.2.2.1
               omega
             have zm2 : z ∈ putAt N { a with limit := a.limit - part } := zLa.2 ⟨z, zm, if_neg fun e => hne (show a.id = z.id from e.symm)⟩
             have hk2 := hkz _ r1 r2 ⟨z, zm2, rfl⟩
             subst hk2
             obtain ⟨s1, s2, -⟩ := limit_holds hy r1 r2 zm2 he fun p hp e => by
               have hu := r4 p.id
               rw [if_pos (by rw [hpar, e])] at hu
               obtain ⟨p0, hp0, e0⟩ := zLa.1 hp
               by_cases hpa : p0.id = a.id
               · rw [if_pos hpa] at e0
                 subst e0
                 show under (putAt N { a with limit := a.limit - part }) a.id + (z.limit + part - z.limit) ≤ a.limit - part
                 have hu : under (putAt N { a with limit := a.limit - part }) a.id = under N a.id + (a.limit - part - a.limit) := hu
                 omega
               · rw [if_neg hpa] at e0
                 subst e0
                 have := (hN p0 hp0).2.2.2.1
                 omega
             exact ⟨_, s1, s2⟩
theorem bare_ok {n : Nd} (h : n.ok) : (bareOf n).ok := by
 obtain ⟨h1, h2, h3, h4, h5, h6, h7, h8, h9, h10, h11⟩ := h
 have z : I64 0 := by unfold I64; omega
 exact ⟨h1, h2, h3, h4, h5, h6, z, z, z, z, z⟩
theorem fair_iff {n : Nd} (h : fairN n = 0) : (1 ≤ n.id ∧ n.id ≤ 999) ∧ 0 ≤ n.limit ∧ n.limit ≤ 9007199254740992 := by
 unfold fairN at h
 split at h
 · simp at h
 · split at h
   · simp at h
   · omega
theorem new_holds {N : List Nd} {f : Fun} {n : Nd} {g : Int} (h : NodesAre 2020 N f) (hN : HoldN N) (hy20 : n.year = 2020) (ho : n.ok) (hg : n.parent ≠ 0 → g = under N n.parent) (he : (shiftNew f n g).2 = 0) :
   ∃ N', NodesAre 2020 N' (shiftNew f n g).1 ∧ HoldN N' := by
 have hy : InR 2020 := ⟨by omega, by omega⟩
 unfold shiftNew at he ⊢
 by_cases h1 : checkY f n.year ≠ 0
 · rw [if_pos h1] at he; exact absurd he h1
 · rw [if_neg h1] at he ⊢
   by_cases h2 : fairN n ≠ 0
   · rw [if_pos h2] at he; exact absurd he h2
   · rw [if_neg h2] at he ⊢
     obtain ⟨hid, hlim⟩ := fair_iff (by simpa using h2)
     by_cases h3 : knownN f n = false
     · rw [if_pos h3] at he; simp at he
     · rw [if_neg h3] at he ⊢
       by_cases h4 : (nodeAt f n.year n.id).isSome = true
       · rw [if_pos h4] at he; simp at he
       · rw [if_neg h4] at he ⊢
         by_cases h5 : belowN f n g ≠ 0
         · rw [if_pos h5] at he; exact absurd he h5
         · rw [if_neg h5] at he ⊢
           have h50 : belowN f n g = 0 := by simpa using h5
           have hno : nodeAt f 2020 n.id = none := by
             rw [hy20] at h4
             cases hx : nodeAt f 2020 n.id with
             | none => rfl
             | some m => rw [hx] at h4; exact absurd rfl h4
           have hids := (nodes_none hy h).1 hno
           have hpar : n.parent = 0 ∨ ∃ p ∈ N, p.id = n.parent ∧ under N p.id + n.limit ≤ p.limit := by
             by_cases hp0 : n.parent = 0
             · exact .inl hp0
             · refine .inr ?_
               have hk : (nodeAt f 2020 n.parent).isSome = true := by
                 have : knownN f n = true := by simpa using h3
                 unfold knownN at this
                 rw [hy20] at this
                 simp only [zSa, Bool.or_eq_true, beq_iff_eq] at this
                 exact this.2.2.resolve_left hp0
               cases hx : nodeAt f 2020 n.parent with
               | none => rw [hx] at hk; cases hk
               | some p =>
                 obtain ⟨pm, pi⟩ := (nodes_at hy h).1 hx
                 have hgp := hg hp0
                 unfold belowN at h50
                 rw [if_neg hp0, hy20] at h50
                 split at h50
                 · simp at h50
                 · split at h50
                   · simp at h50
                   · rename_i c1 c2
                     have hh : (pathOf f 2020 8 n.parent).headD .zero = p := by simp only [pathOf, hx]; rfl
                     rw [hh] at c2
                     obtain ⟨-, ⟨-, d2⟩, -, d4, -⟩ := hN p pm
                     have d0 := under_pos (fun n hn => (hN n hn).2.1.1) p.id
                     rw [pi] at d0 d4
                     have hw : w64 (g + n.limit) = g + n.limit := wrap_i64 (by omega) (by omega)
                     rw [hw] at c2
                     exact ⟨p, pm, pi, by rw [pi]; omega⟩
           refine ⟨N ++ [bareOf n], nodes_add (n := bareOf n) hy h hy20 ⟨by show 0 ≤ n.id; omega, by show n.id ≤ 4294967295; omega⟩ (bare_ok ho) hids, hold_new (n := bareOf n) hN hids hid.1 ⟨hlim.1, by show n.limit ≤ _; omega⟩ hpar h.1 ⟨?_, ?_⟩⟩
           · show (figureP 0 && figureP 0 && figureP 0) = true
             decide
           · show w64 (w64 (0 + 0) + 0) = 0
             decide
theorem hold_chargeG {N : List Nd} {mk : Dl → Chg} : ∀ {l : List Dl} {f : Fun} {w : Bool}, NodesAre 2020 N f → HoldN N → (chargeG mk 2020 l f w).2.2 = 0 → ∃ N', NodesAre 2020 N' (chargeG mk 2020 l f w).1 ∧ HoldN N'
 | [], f, w, h, hN, _ => ⟨N, h, hN⟩
 | x :: r, f, w, h, hN, he => by
   rw [chargeG_cons] at he ⊢
   split
   · rename_i hc; rw [if_pos hc] at he; exact absurd he hc
   · rename_i hc
     rw [if_neg hc] at he
     obtain ⟨N', g1, g2, -⟩ := hold_charge ⟨by omega, by omega⟩ h hN (show (chargeOf f 2020 x.node (mk x)).2.2 = 0 by simpa using hc)
     exact hold_chargeG g1 g2 he
theorem nodes_docs {y : Int} {N : List Nd} {f : Fun} {d : Dc} {l : List Dl} (h : NodesAre y N f) : NodesAre y N (docsPut f d l).1 := by
 unfold docsPut
 split
 · exact h
 · split
   · exact h
   · exact nodes_congr h fun k hk => docsF_node f _ _ _ hk
theorem nodes_docsSet {y : Int} {N : List Nd} {f : Fun} {id i : Int} {x : Dl} (h : NodesAre y N f) : NodesAre y N (docsSet f id i x).1 := by
 unfold docsSet
 repeat' split
 all_goals first | exact h | exact nodes_upd (q := dlK id i) (t := 76) (a := [id, i]) rfl (by decide) h
theorem pre_holds {N : List Nd} {f : Fun} {l : List Ln} (h : NodesAre 2020 N f) (hN : HoldN N) (he : (preNew f 2020 l).2.2.2 = 0) : ∃ N', NodesAre 2020 N' (preNew f 2020 l).1 ∧ HoldN N' := by
 unfold preNew at he ⊢
 by_cases h1 : checkY f 2020 ≠ 0
 · rw [if_pos h1] at he; exact absurd he h1
 · rw [if_neg h1] at he ⊢
   by_cases h2 : preCheck l ≠ 0
   · rw [if_pos h2] at he; exact absurd he h2
   · rw [if_neg h2] at he ⊢
     by_cases h3 : (chargeL 2020 (ownL l) f false).2.2 ≠ 0
     · rw [if_pos h3] at he; exact absurd he h3
     · rw [if_neg h3] at he ⊢
       have h30 : (chargeL 2020 (ownL l) f false).2.2 = 0 := by simpa using h3
       rw [chargeL_G] at h30 ⊢
       obtain ⟨N', g1, g2⟩ := hold_chargeG h hN h30
       exact ⟨N', nodes_docs g1, g2⟩
def lessC (kind part : Int) : Chg := if kind = 1 then ⟨w64 (0 - part), 0, 0⟩ else if kind = 2 then ⟨0, w64 (0 - part), 0⟩ else ⟨0, 0, 0⟩
def cancelF (f : Fun) (doc line part : Int) : Fun × Int :=
 if rightA part = false then (f, 1)
 else match docAt f doc with
   | none => (f, 7)
   | some (d, l) => if line < 0 ∨ line ≥ l.length then (f, 7)
     else if checkY f d.year ≠ 0 then (f, checkY f d.year)
     else if d.kind = 3 ∨ openD (l.getD line.toNat .zero) < part then (f, 12)
     else if (chargeOf f d.year (l.getD line.toNat .zero).node (lessC d.kind part)).2.2 ≠ 0 then ((chargeOf f d.year (l.getD line.toNat .zero).node (lessC d.kind part)).1, (chargeOf f d.year (l.getD line.toNat .zero).node (lessC d.kind part)).2.2)
     else docsSet (chargeOf f d.year (l.getD line.toNat .zero).node (lessC d.kind part)).1 doc line { l.getD line.toNat .zero with can := w64 ((l.getD line.toNat .zero).can + part) }
theorem cancel_holds {N : List Nd} {f : Fun} {doc line part : Int} (h : NodesAre 2020 N f) (hN : HoldN N) (h20 : ∀ d l, docAt f doc = some (d, l) → checkY f d.year = 0 → d.year = 2020) (he : (cancelF f doc line part).2 = 0) : ∃ N', NodesAre 2020 N' (cancelF f doc line part).1 ∧ HoldN N' := by
 unfold cancelF at he ⊢
 by_cases h1 : rightA part = false
 · rw [if_pos h1] at he; simp at he
 · rw [if_neg h1] at he ⊢
   cases hd : docAt f doc with
   | none => rw [hd] at he; simp at he
   | some p =>
     obtain ⟨d, l⟩ := p
     rw [hd] at he
     simp only at he ⊢
     by_cases h2 : line < 0 ∨ line ≥ l.length
     · rw [if_pos h2] at he; simp at he
     · rw [if_neg h2] at he ⊢
       by_cases h3 : checkY f d.year ≠ 0
       · rw [if_pos h3] at he; exact absurd he h3
       · rw [if_neg h3] at he ⊢
         have hy := h20 d l hd (by simpa using h3)
         by_cases h4 : d.kind = 3 ∨ openD (l.getD line.toNat .zero) < part
         · rw [if_pos h4] at he; simp at he
         · rw [if_neg h4] at he ⊢
           by_cases h5 : (chargeOf f d.year (l.getD line.toNat .zero).node (lessC d.kind part)).2.2 ≠ 0
           · rw [if_pos h5] at he; exact absurd he h5
           · rw [if_neg h5] at he ⊢
             rw [hy] at h5 ⊢
             obtain ⟨N', g1, g2, -⟩ := hold_charge ⟨by omega, by omega⟩ h hN (show (chargeOf f 2020 (l.getD line.toNat .zero).node (lessC d.kind part)).2.2 = 0 by simpa using h5)
             exact ⟨N', nodes_docsSet g1, g2⟩
def LinesRight (f : Fun) : Prop := ∀ id i x, lineAt f id i = some x → rightD x = true
theorem lines_right_at {f : Fun} (h : LinesRight f) {id : Int} : ∀ {n : Nat} {l : List Dl}, linesAt f id n = some l → ∀ x ∈ l, rightD x = true
 | 0, l, e => by cases e; simp
 | n + 1, l, e => by
   unfold linesAt at e
   cases h1 : linesAt f id n with
   | none => rw [h1] at e; cases e
   | some l1 =>
     rw [h1] at e
     cases h2 : lineAt f id n with
     | none => rw [zKa, h2] at e; cases e
     | some x =>
       rw [zKa, h2] at e
       cases e
       intro y hy
       rcases zWa.1 hy with hy | hy
       · exact lines_right_at h h1 y hy
       · rw [zYa] at hy; subst hy; exact h _ _ _ h2
theorem docs_right {f : Fun} (h : LinesRight f) {id : Int} {d : Dc} {l : List Dl} (e : docAt f id = some (d, l)) : ∀ x ∈ l, rightD x = true := by
 unfold docAt at e
 cases h1 : docHead f id with
 | none => rw [h1] at e; cases e
 | some d1 =>
   rw [h1, zKa] at e
   cases h2 : linesAt f id d1.lines.toNat with
   | none => rw [h2] at e; cases e
   | some l1 =>
     rw [h2] at e
     cases e
     exact lines_right_at h h2
theorem lines_congr {f g : Fun} (h : LinesRight f) (he : ∀ id i, g (dlK id i) = f (dlK id i)) : LinesRight g := fun id i x hx => h id i x (by
 unfold lineAt at hx ⊢
 rw [← he id i]; exact hx)
theorem lines_upd {f : Fun} {q : List UInt8} {v : Option (List UInt8)} {t : UInt8} {a : List Int} (hq : q = keyOf t a) (ht : t ≠ 76) (h : LinesRight f) : LinesRight (upd f q v) :=
 lines_congr h fun id i => by
   rw [upd_app, if_neg]
   rw [hq]
   exact fun e => ht (List.cons.inj e).1.symm
theorem lines_charge {f : Fun} {y i : Int} {c : Chg} (h : LinesRight f) (he : (chargeOf f y i c).2.2 = 0) : LinesRight (chargeOf f y i c).1 :=
 lines_congr h fun id j => chargeOf_other he fun m e => absurd (List.cons.inj e).1 (by decide)
theorem lines_chargeG {y : Int} {mk : Dl → Chg} : ∀ {l : List Dl} {f : Fun} {w : Bool}, LinesRight f → (chargeG mk y l f w).2.2 = 0 → LinesRight (chargeG mk y l f w).1
 | [], f, w, h, _ => h
 | x :: r, f, w, h, he => by
   rw [chargeG_cons] at he ⊢
   split
   · rename_i hc; rw [if_pos hc] at he; exact absurd he hc
   · rename_i hc
     rw [if_neg hc] at he
     exact lines_chargeG (lines_charge h (by simpa using hc)) he
theorem lines_put {f : Fun} {id i : Int} {x : Dl} (h : LinesRight f) (hi : InR id) (hj : InR i) (hx : x.ok) (hr : rightD x = true) : LinesRight (upd f (dlK id i) (some (dlV x))) := fun id2 j z hz => by
 unfold lineAt at hz
 rw [upd_app] at hz
 by_cases e : dlK id2 j = dlK id i
 · rw [if_pos e, zKa, e, lineOf_put hx hi hj] at hz
   cases hz; exact hr
 · rw [if_neg e] at hz
   exact h id2 j z hz
theorem lines_putL {id : Int} (hi : InR id) : ∀ {l : List Dl} {i : Nat} {f : Fun}, LinesRight f → i + l.length ≤ 100 → (∀ x ∈ l, x.ok ∧ rightD x = true) → LinesRight (putLines id i l f)
 | [], i, f, h, _, _ => h
 | x :: r, i, f, h, hl, hx => by
   simp only [zOa] at hl
   have h1 := hx x (List.mem_cons_self ..)
   exact lines_putL hi (l := r) (i := i + 1) (lines_put h hi ⟨by omega, by omega⟩ h1.1 h1.2) (by omega) fun y hy => hx y (zLb _ hy)
theorem lines_docs {f : Fun} {d : Dc} {l : List Dl} (h : LinesRight f) (hx : ∀ x ∈ l, x.ok ∧ rightD x = true) : LinesRight (docsPut f d l).1 := by
 unfold docsPut
 split
 · exact h
 · rename_i h6
   split
   · exact h
   · rename_i hs
     show LinesRight (docsF f (readOf f (seqKey 2) + 1) d l)
     unfold docsF
     refine lines_upd (q := dcK _) (t := 68) (a := [_]) rfl (by decide) ?_
     refine lines_putL ⟨by omega, by omega⟩ ?_ (by omega) hx
     exact lines_upd (q := seqKey 2) (t := 83) (a := [2]) rfl (by decide) h
theorem rightD_iff (x : Dl) : rightD x = true ↔ (0 ≤ x.orig ∧ x.orig ≤ 1152921504606846976) ∧ (0 ≤ x.liq ∧ x.liq ≤ 1152921504606846976) ∧ (0 ≤ x.can ∧ x.can ≤ 1152921504606846976) ∧ (0 ≤ openD x ∧ openD x ≤ 1152921504606846976) := by
 simp [rightD, inD]
theorem open_right {x : Dl} (h : rightD x = true) : openD x = x.orig - (x.liq + x.can) := by
 rw [rightD_iff] at h
 unfold openD
 rw [w64_id (n := x.liq + x.can) (by omega) (by omega), w64_id (by omega) (by omega)]
theorem right_can {x : Dl} {part : Int} (h : rightD x = true) (hp : 1 ≤ part ∧ part ≤ 9007199254740992) (ho : ¬ openD x < part) : rightD { x with can := w64 (x.can + part) } = true := by
 have e := open_right h
 have h2 := h
 rw [rightD_iff] at h2
 have hw : w64 (x.can + part) = x.can + part := w64_id (by omega) (by omega)
 rw [hw]
 have e2 : openD { x with can := x.can + part } = x.orig - (x.liq + (x.can + part)) := by
   show w64 (x.orig - w64 (x.liq + (x.can + part))) = _
   rw [w64_id (n := x.liq + (x.can + part)) (by omega) (by omega), w64_id (by omega) (by omega)]
 rw [rightD_iff, e2]
 refine ⟨h2.1, h2.2.1, ⟨?_, ?_⟩, ?_, ?_⟩
 · show 0 ≤ x.can + part; omega
 · show x.can + part ≤ _; omega
 · omega
 · omega
theorem pre_right2 {l : List Ln} (h : preCheck l = 0) : ∀ x ∈ l, 1 ≤ x.amt ∧ x.amt ≤ 9007199254740992 := by
 unfold preCheck at h
 split at h
 · simp at h
 · rename_i hc
   intro x hx
   have hw : wrongL x = false := by
     cases hw : wrongL x with
     | false => rfl
     | true => exact absurd (.inr (.inr (List.any_eq_true.2 ⟨x, hx, hw⟩))) hc
   unfold wrongL rightA at hw
   simp at hw
   omega
theorem lines_pre {f : Fun} {l : List Ln} (h : LinesRight f) (hl : ∀ x ∈ l, x.ok) (he : (preNew f 2020 l).2.2.2 = 0) : LinesRight (preNew f 2020 l).1 := by
 unfold preNew at he ⊢
 by_cases h1 : checkY f 2020 ≠ 0
 · rw [if_pos h1] at he; exact absurd he h1
 · rw [if_neg h1] at he ⊢
   by_cases h2 : preCheck l ≠ 0
   · rw [if_pos h2] at he; exact absurd he h2
   · rw [if_neg h2] at he ⊢
     by_cases h3 : (chargeL 2020 (ownL l) f false).2.2 ≠ 0
     · rw [if_pos h3] at he; exact absurd he h3
     · rw [if_neg h3] at he ⊢
       have h30 : (chargeL 2020 (ownL l) f false).2.2 = 0 := by simpa using h3
       have hpr := (pre_right2 (by simpa using h2 : preCheck l = 0))
       rw [chargeL_G] at h30 ⊢
       refine lines_docs (lines_chargeG h h30) fun x hx => ⟨ownL_ok hl x hx, ?_⟩
       obtain ⟨z, hz, rfl⟩ := zLa.1 hx
       have hz2 := hpr z hz
       rw [rightD_iff]
       have : openD ⟨z.node, z.amt, 0, 0⟩ = z.amt := by
         show w64 (z.amt - w64 (0 + 0)) = _
         rw [w64_id (n := 0 + 0) (by omega) (by omega), w64_id (by omega) (by omega)]; omega
       rw [this]
       refine ⟨⟨by show 0 ≤ z.amt; omega, by show z.amt ≤ _; omega⟩, ⟨by show (0 : Int) ≤ 0; decide, by show (0 : Int) ≤ _; decide⟩, ⟨by show (0 : Int) ≤ 0; decide, by show (0 : Int) ≤ _; decide⟩, by omega, by omega⟩
theorem docOf_clamp {id : Int} {v : List UInt8} {d : Dc} (h : docOf (dcK id) v = some d) : d.id = clampK id := by
 unfold docOf numsPair dcK at h
 rw [splitOf_key 68 [id] (by simp)] at h
 simp only [zTa, zKb] at h
 split at h
 · cases h; rfl
 · cases h
theorem docAt_in {f : Fun} {id : Int} {p : Dc × List Dl} (h : docAt f id = some p) : InR id := by
 unfold docAt at h
 cases h1 : docHead f id with
 | none => rw [h1] at h; cases h
 | some d =>
   have hi := (docHead_ok h1).1
   unfold docHead at h1
   cases h2 : f (dcK id) with
   | none => rw [h2] at h1; cases h1
   | some v =>
     rw [h2, zKa] at h1
     cases h3 : docOf (dcK id) v with
     | none => rw [h3] at h1; cases h1
     | some d2 =>
       rw [h3, zKa] at h1
       split at h1
       · cases h1
         have := docOf_clamp h3
         rw [hi] at this
         have r := clampK_range id
         rw [← this] at r
         exact r
       · cases h1
theorem docAt_len {f : Fun} {id : Int} {d : Dc} {l : List Dl} (h : docAt f id = some (d, l)) : l.length ≤ 6 := by
 unfold docAt at h
 cases h1 : docHead f id with
 | none => rw [h1] at h; cases h
 | some d1 =>
   obtain ⟨-, -, h6⟩ := docHead_ok h1
   rw [h1, zKa] at h
   cases h2 : linesAt f id d1.lines.toNat with
   | none => rw [h2] at h; cases h
   | some l1 =>
     rw [h2] at h
     cases h
     have := linesAt_length h2
     omega
theorem lines_set {f : Fun} {id i : Int} {x : Dl} (h : LinesRight f) (hx : x.ok) (hr : rightD x = true) : LinesRight (docsSet f id i x).1 := by
 unfold docsSet
 split
 · rename_i d l hd
   split
   · rename_i hc
     have := docAt_len hd
     exact lines_put h (docAt_in hd) ⟨by omega, by omega⟩ hx hr
   · exact h
 · exact h
theorem lines_cancel {f : Fun} {doc line part : Int} (h : LinesRight f) (he : (cancelF f doc line part).2 = 0) : LinesRight (cancelF f doc line part).1 := by
 unfold cancelF at he ⊢
 by_cases h1 : rightA part = false
 · rw [if_pos h1] at he; simp at he
 · rw [if_neg h1] at he ⊢
   cases hd : docAt f doc with
   | none => rw [hd] at he; simp at he
   | some p =>
     obtain ⟨d, l⟩ := p
     rw [hd] at he
     simp only at he ⊢
     by_cases h2 : line < 0 ∨ line ≥ l.length
     · rw [if_pos h2] at he; simp at he
     · rw [if_neg h2] at he ⊢
       by_cases h3 : checkY f d.year ≠ 0
       · rw [if_pos h3] at he; exact absurd he h3
       · rw [if_neg h3] at he ⊢
         by_cases h4 : d.kind = 3 ∨ openD (l.getD line.toNat .zero) < part
         · rw [if_pos h4] at he; simp at he
         · rw [if_neg h4] at he ⊢
           by_cases h5 : (chargeOf f d.year (l.getD line.toNat .zero).node (lessC d.kind part)).2.2 ≠ 0
           · rw [if_pos h5] at he; exact absurd he h5
           · rw [if_neg h5] at he ⊢
             have hlt : line.toNat < l.length := by omega
             have hg : l.getD line.toNat .zero = l[line.toNat] := by rw [List.getD_eq_getElem?_getD, zNa hlt]; rfl
             have hm : l[line.toNat] ∈ l := zMa hlt
             have hxo := docAt_ok hd _ hm
             have hxr := docs_right h hd _ hm
             rw [hg] at h4 h5 ⊢
             have hpr : 1 ≤ part ∧ part ≤ 9007199254740992 := by
               have : rightA part = true := by simpa using h1
               unfold rightA at this
               simpa using this
             refine lines_set (lines_charge h (by simpa using h5)) ⟨hxo.1, hxo.2.1, hxo.2.2.1, w64_range _⟩ (right_can hxr hpr fun hc => h4 (.inr hc))
theorem lines_limit {f : Fun} {n : Nd} {to g : Int} (h : LinesRight f) : LinesRight (limitF f n to g).1 := by
 unfold limitF
 repeat' split
 all_goals first | exact h | exact lines_upd (t := 78) (a := ndKey _) rfl (by decide) h
theorem lines_new {f : Fun} {n : Nd} {g : Int} (h : LinesRight f) : LinesRight (shiftNew f n g).1 := by
 unfold shiftNew
 repeat' split
 all_goals first | exact h | exact lines_upd (t := 78) (a := ndKey _) rfl (by decide) h
theorem lines_amend {f : Fun} {y id more g k : Int} (h : LinesRight f) : LinesRight (amendF f y id more g k).1 := by
 unfold amendF
 repeat' split
 all_goals first | exact h | exact lines_limit h
theorem lines_move {f : Fun} {y a b p ka kz : Int} (h : LinesRight f) : LinesRight (moveF f y a b p ka kz).1 := by
 unfold moveF
 repeat' split
 all_goals first | exact h | exact lines_limit h | exact lines_limit (lines_limit h)
def OneYear (f : Fun) : Prop := ∀ y, checkY f y = 0 → y = 2020
theorem one_congr {f g : Fun} (h : OneYear f) (he : ∀ y, g (yrK y) = f (yrK y)) : OneYear g := fun y hy => h y (by rw [← checkY_congr (he y)]; exact hy)
theorem one_upd {f : Fun} {q : List UInt8} {v : Option (List UInt8)} {t : UInt8} {a : List Int} (hq : q = keyOf t a) (ht : t ≠ 89) (h : OneYear f) : OneYear (upd f q v) :=
 one_congr h fun y => by
   rw [upd_app, if_neg]
   rw [hq]
   exact fun e => ht (List.cons.inj e).1.symm
theorem one_charge {f : Fun} {y i : Int} {c : Chg} (h : OneYear f) (he : (chargeOf f y i c).2.2 = 0) : OneYear (chargeOf f y i c).1 :=
 one_congr h fun z => chargeOf_other he fun m => yr_nd z m
theorem one_chargeG {y : Int} {mk : Dl → Chg} : ∀ {l : List Dl} {f : Fun} {w : Bool}, OneYear f → (chargeG mk y l f w).2.2 = 0 → OneYear (chargeG mk y l f w).1
 | [], f, w, h, _ => h
 | x :: r, f, w, h, he => by
   rw [chargeG_cons] at he ⊢
   split
   · rename_i hc; rw [if_pos hc] at he; exact absurd he hc
   · rename_i hc
     rw [if_neg hc] at he
     exact one_chargeG (one_charge h (by simpa using hc)) he
theorem one_docs {f : Fun} {d : Dc} {l : List Dl} (h : OneYear f) : OneYear (docsPut f d l).1 := by
 unfold docsPut
 split
 · exact h
 · split
   · exact h
   · exact one_congr h fun y => docsF_other f _ d l (keyOf_tag (by decide)) (fun j => keyOf_tag (by decide)) (keyOf_tag (by decide))
theorem one_set {f : Fun} {id i : Int} {x : Dl} (h : OneYear f) : OneYear (docsSet f id i x).1 := by
 unfold docsSet
 repeat' split
 all_goals first | exact h | exact one_upd (t := 76) (a := [id, i]) rfl (by decide) h
theorem one_limit {f : Fun} {n : Nd} {to g : Int} (h : OneYear f) : OneYear (limitF f n to g).1 := by
 unfold limitF
 repeat' split
 all_goals first | exact h | exact one_upd (t := 78) (a := ndKey _) rfl (by decide) h
theorem one_new {f : Fun} {n : Nd} {g : Int} (h : OneYear f) : OneYear (shiftNew f n g).1 := by
 unfold shiftNew
 repeat' split
 all_goals first | exact h | exact one_upd (t := 78) (a := ndKey _) rfl (by decide) h
theorem one_amend {f : Fun} {y id more g k : Int} (h : OneYear f) : OneYear (amendF f y id more g k).1 := by
 unfold amendF
 repeat' split
 all_goals first | exact h | exact one_limit h
theorem one_move {f : Fun} {y a b p ka kz : Int} (h : OneYear f) : OneYear (moveF f y a b p ka kz).1 := by
 unfold moveF
 repeat' split
 all_goals first | exact h | exact one_limit h | exact one_limit (one_limit h)
theorem one_pre {f : Fun} {y : Int} {l : List Ln} (h : OneYear f) (he : (preNew f y l).2.2.2 = 0) : OneYear (preNew f y l).1 := by
 unfold preNew at he ⊢
 by_cases h1 : checkY f y ≠ 0
 · rw [if_pos h1] at he; exact absurd he h1
 · rw [if_neg h1] at he ⊢
   by_cases h2 : preCheck l ≠ 0
   · rw [if_pos h2] at he; exact absurd he h2
   · rw [if_neg h2] at he ⊢
     by_cases h3 : (chargeL y (ownL l) f false).2.2 ≠ 0
     · rw [if_pos h3] at he; exact absurd he h3
     · rw [if_neg h3] at he ⊢
       have h30 : (chargeL y (ownL l) f false).2.2 = 0 := by simpa using h3
       rw [chargeL_G] at h30 ⊢
       exact one_docs (one_chargeG h h30)
theorem one_cancel {f : Fun} {doc line part : Int} (h : OneYear f) (he : (cancelF f doc line part).2 = 0) : OneYear (cancelF f doc line part).1 := by
 unfold cancelF at he ⊢
 by_cases h1 : rightA part = false
 · rw [if_pos h1] at he; simp at he
 · rw [if_neg h1] at he ⊢
   cases hd : docAt f doc with
   | none => rw [hd] at he; simp at he
   | some p =>
     obtain ⟨d, l⟩ := p
     rw [hd] at he
     simp only at he ⊢
     by_cases h2 : line < 0 ∨ line ≥ l.length
     · rw [if_pos h2] at he; simp at he
     · rw [if_neg h2] at he ⊢
       by_cases h3 : checkY f d.year ≠ 0
       · rw [if_pos h3] at he; exact absurd he h3
       · rw [if_neg h3] at he ⊢
         by_cases h4 : d.kind = 3 ∨ openD (l.getD line.toNat .zero) < part
         · rw [if_pos h4] at he; simp at he
         · rw [if_neg h4] at he ⊢
           by_cases h5 : (chargeOf f d.year (l.getD line.toNat .zero).node (lessC d.kind part)).2.2 ≠ 0
           · rw [if_pos h5] at he; exact absurd he h5
           · rw [if_neg h5]
             exact one_set (one_charge h (by simpa using h5))
def Stays (f : Fun) : Prop := (∃ N, NodesAre 2020 N f ∧ HoldN N) ∧ LinesRight f ∧ OneYear f
theorem stays_pre {f : Fun} {y : Int} {l : List Ln} (h : Stays f) (hl : ∀ x ∈ l, x.ok) (he : (preNew f y l).2.2.2 = 0) : Stays (preNew f y l).1 := by
 obtain ⟨⟨N, h1, h2⟩, h3, h4⟩ := h
 have hy : y = 2020 := h4 y (by
   unfold preNew at he
   by_cases hc : checkY f y ≠ 0
   · rw [if_pos hc] at he; exact absurd he hc
   · simpa using hc)
 subst hy
 exact ⟨pre_holds h1 h2 he, lines_pre h3 hl he, one_pre h4 he⟩
theorem stays_cancel {f : Fun} {doc line part : Int} (h : Stays f) (he : (cancelF f doc line part).2 = 0) : Stays (cancelF f doc line part).1 := by
 obtain ⟨⟨N, h1, h2⟩, h3, h4⟩ := h
 exact ⟨cancel_holds h1 h2 (fun d l _ hc => h4 _ hc) he, lines_cancel h3 he, one_cancel h4 he⟩
theorem stays_new {f : Fun} {n : Nd} {g : Int} (h : Stays f) (ho : n.ok) (hg : ∀ l, n.parent ≠ 0 → n.year = 2020 → ScanIs f (keyOf 78 [2020]) l → g = w64s ((kidsN 2020 n.parent l).map (·.limit))) (hex : ∃ l, ScanIs f (keyOf 78 [2020]) l) (he : (shiftNew f n g).2 = 0) : Stays (shiftNew f n g).1 := by
 obtain ⟨⟨N, h1, h2⟩, h3, h4⟩ := h
 have hy : InR 2020 := ⟨by omega, by omega⟩
 have hc : checkY f n.year = 0 := by
   unfold shiftNew at he
   by_cases hc : checkY f n.year ≠ 0
   · rw [if_pos hc] at he; exact absurd he hc
   · simpa using hc
 have hy20 := h4 _ hc
 refine ⟨?_, lines_new h3, one_new h4⟩
 -- the parent is there, if it is asked for
 by_cases hp0 : n.parent = 0
 · exact new_holds h1 h2 hy20 ho (fun h => absurd hp0 h) he
 · have hk : ∃ p ∈ N, p.id = n.parent := by
     cases hx : nodeAt f 2020 n.parent with
     | some p => exact ⟨p, (nodes_at hy h1).1 hx⟩
     | none =>
       exfalso
       unfold shiftNew at he
       rw [if_neg (by rw [hc]; decide)] at he
       split at he
       · rename_i h5; exact h5 he
       · split at he
         · simp at he
         · rename_i h6
           have : knownN f n = true := by simpa using h6
           unfold knownN at this
           rw [hy20, hx] at this
           simp [hp0] at this
   obtain ⟨p, pm, pi⟩ := hk
   obtain ⟨l, hl⟩ := hex
   have hu : under N n.parent ≤ 1152921504606846976 := by
     obtain ⟨-, ⟨-, d2⟩, -, d4, -⟩ := h2 p pm
     rw [pi] at d4; omega
   refine new_holds h1 h2 hy20 ho (fun _ => ?_) he
   rw [hg l hp0 hy20 hl]
   exact under_kids h2 hu (nodes_perm hy h1 hl)
theorem kids_under {N : List Nd} {f : Fun} {l : List KV} {i : Int} (h : NodesAre 2020 N f) (hN : HoldN N) (hl : ScanIs f (keyOf 78 [2020]) l) (hi : ∃ p ∈ N, p.id = i) : w64s ((kidsN 2020 i l).map (·.limit)) = under N i := by
 obtain ⟨p, pm, rfl⟩ := hi
 obtain ⟨-, ⟨-, d2⟩, -, d4, -⟩ := hN p pm
 exact under_kids hN (by omega) (nodes_perm ⟨by omega, by omega⟩ h hl)
theorem stays_amend {f : Fun} {y id more g k : Int} {l : List KV} (h : Stays f) (hl : y = 2020 → ScanIs f (keyOf 78 [2020]) l) (hg : ∀ n up, nodeAt f y id = some n → nodeAt f y n.parent = some up → g = w64s ((kidsN y up.id l).map (·.limit)))
   (hk : ∀ n, nodeAt f y id = some n → k = w64s ((kidsN y n.id l).map (·.limit))) (he : (amendF f y id more g k).2.2 = 0) : Stays (amendF f y id more g k).1 := by
 obtain ⟨⟨N, h1, h2⟩, h3, h4⟩ := h
 have hy : InR 2020 := ⟨by omega, by omega⟩
 have hy20 : y = 2020 := h4 y (by
   unfold amendF at he
   by_cases hc : checkY f y ≠ 0
   · rw [if_pos hc] at he; exact absurd he hc
   · simpa using hc)
 subst hy20
 have hl := hl rfl
 refine ⟨?_, lines_amend h3, one_amend h4⟩
 cases hn : nodeAt f 2020 id with
 | none =>
   exfalso
   unfold amendF at he
   split at he
   · rename_i hc; exact hc he
   · split at he
     · simp at he
     · rw [hn] at he; simp at he
 | some n =>
   obtain ⟨nm, ni⟩ := (nodes_at hy h1).1 hn
   refine amend_holds h1 h2 (fun n' hn' up hu => ?_) ?_ he
   · obtain ⟨um, ui⟩ := (nodes_at hy h1).1 hu
     rw [hg n' up hn' hu]
     exact kids_under h1 h2 hl ⟨up, um, rfl⟩
   · rw [hk n hn, ni]
     exact kids_under h1 h2 hl ⟨n, nm, ni⟩
theorem stays_move {f : Fun} {y frm to part ka kz : Int} {l : List KV} (h : Stays f) (hl : y = 2020 → ScanIs f (keyOf 78 [2020]) l) (hka : ∀ a, nodeAt f y frm = some a → ka = w64s ((kidsN y a.id l).map (·.limit)))
   (hkz : ∀ a z, nodeAt f y frm = some a → nodeAt f y to = some z → ∃ l2, ScanIs (limitF f a (w64 (a.limit - part)) ka).1 (keyOf 78 [2020]) l2 ∧ kz = w64s ((kidsN 2020 z.id l2).map (·.limit)))
   (he : (moveF f y frm to part ka kz).2.2 = 0) : Stays (moveF f y frm to part ka kz).1 := by
 obtain ⟨⟨N, h1, h2⟩, h3, h4⟩ := h
 have hy : InR 2020 := ⟨by omega, by omega⟩
 have hy20 : y = 2020 := h4 y (by
   unfold moveF at he
   by_cases hc : checkY f y ≠ 0
   · rw [if_pos hc] at he; exact absurd he hc
   · simpa using hc)
 subst hy20
 have hl := hl rfl
 refine ⟨?_, lines_move h3, one_move h4⟩
 cases hn : nodeAt f 2020 frm with
 | none =>
   exfalso
   unfold moveF at he
   split at he
   · rename_i hc; exact hc he
   · split at he
     · simp at he
     · rw [hn] at he; simp at he
 | some a =>
   cases hz : nodeAt f 2020 to with
   | none =>
     exfalso
     unfold moveF at he
     split at he
     · rename_i hc; exact hc he
     · split at he
       · simp at he
       · rw [hn, hz] at he; simp at he
   | some z =>
     obtain ⟨am, ai⟩ := (nodes_at hy h1).1 hn
     obtain ⟨zm, zi⟩ := (nodes_at hy h1).1 hz
     refine move_holds h1 h2 ?_ (fun a' ha' N1 hN1 hN1h hex => ?_) he
     · rw [hka a hn, ai]
       exact kids_under h1 h2 hl ⟨a, am, ai⟩
     · obtain ⟨l2, hl2, e⟩ := hkz a' z ha' hz
       rw [e, zi]
       exact kids_under hN1 hN1h hl2 hex
theorem stays_law {f : Fun} {l : List KV} (h : Stays f) (hl : ScanIs f (keyOf 78 [2020]) l) : (∀ n ∈ allN 2020 l, w64s ((kidsN 2020 n.id l).map (·.limit)) ≤ n.limit ∧ (n.abs = true → usedOf n ≤ n.limit)) ∧ ∀ id d dl, docAt f id = some (d, dl) → ∀ x ∈ dl, rightD x = true := by
 obtain ⟨⟨N, h1, h2⟩, h3, -⟩ := h
 refine ⟨fun n hn => ?_, fun id d dl hd => docs_right h3 hd⟩
 have hm : n ∈ N := (nodes_perm ⟨by omega, by omega⟩ h1 hl).mem_iff.1 hn
 rw [kids_under h1 h2 hl ⟨n, hm, rfl⟩]
 obtain ⟨-, -, -, d4, -, d6⟩ := h2 n hm
 exact ⟨d4, d6⟩
def begF : Fun := upd (upd (openOf noF 2020).1 (fundK 100) (some [97])) (objK 5010) (some [])
theorem begF_app (q : List UInt8) : begF q = if q = objK 5010 then some [] else if q = fundK 100 then some [97] else if q = yrK 2020 then some (be 8 1) else none := by
 unfold begF
 rw [upd_app, upd_app, open20]
 rfl
theorem begF_tag {q : List UInt8} {t : UInt8} {a : List Int} (hq : q = keyOf t a) (h1 : t ≠ 79) (h2 : t ≠ 70) (h3 : t ≠ 89) : begF q = none := by
 subst hq
 rw [begF_app, if_neg (show ¬ keyOf t a = objK 5010 from keyOf_tag h1), if_neg (show ¬ keyOf t a = fundK 100 from keyOf_tag h2), if_neg (show ¬ keyOf t a = yrK 2020 from keyOf_tag h3)]
theorem stays_beg : Stays begF := by
 refine ⟨⟨[], nodes_new fun q hp => ?_, hold_nil⟩, fun id i x hx => ?_, fun y hy => ?_⟩
 · obtain ⟨r, rfl⟩ := pre_head hp
   have ne : ∀ {t : UInt8} {a : List Int}, t ≠ 78 → ¬ (78 :: r : List UInt8) = keyOf t a := fun ht e => ht (List.cons.inj e).1.symm
   rw [begF_app, if_neg (show ¬ 78 :: r = objK 5010 from ne (by decide)), if_neg (show ¬ 78 :: r = fundK 100 from ne (by decide)), if_neg (show ¬ 78 :: r = yrK 2020 from ne (by decide))]
 · unfold lineAt at hx
   rw [begF_tag (q := dlK id i) (t := 76) (a := [id, i]) rfl (by decide) (by decide) (by decide)] at hx
   cases hx
 · refine Classical.byContradiction fun hne => ?_
   have hk : yrK y ≠ yrK 2020 := fun e => by
     have := (key_inj (by simp) (by simp) e).2
     simp only [zTa, zKb, List.cons.injEq, and_true] at this
     have c : clampK 2020 = 2020 := rfl
     rw [c] at this
     unfold clampK at this
     split at this <;> split at this <;> omega
   have hn : begF (yrK y) = none := by
     rw [begF_app, if_neg (show ¬ yrK y = objK 5010 from keyOf_tag (by decide)), if_neg (show ¬ yrK y = fundK 100 from keyOf_tag (by decide)), if_neg hk]
   have h7 : checkY begF y = 7 := by
     unfold checkY stateOf
     rw [readOf_none hn]
     rfl
   rw [h7] at hy
   simp at hy
end Go.Proofs.Lx
namespace Go.Proofs.Lx
open Go.Vm
attribute [local irreducible] awpArr awpBin awpMake awpAppend awpCvX awpStrOf awpBinX awpSlice awpBS awpStore awpAlloc awpCopy awpIndex awpDraw awpIdxX awpFa awpField awpLookup awpUpdate awpDelete awpClear awpRange awpNext awpEntry awpBuild awpClearS awpIdxL awpTree appB awpIdxO eltA treeA
noncomputable def underF (f : Fun) (y i : Int) : Int := open Classical in if h : ∃ l, ScanIs f (keyOf 78 [y]) l then w64s ((kidsN y i (Classical.choose h)).map (·.limit)) else 0
theorem underF_eq {f : Fun} {y : Int} {l : List KV} (h : ScanIs f (keyOf 78 [y]) l) (i : Int) : underF f y i = w64s ((kidsN y i l).map (·.limit)) := by
 unfold underF
 rw [dif_pos ⟨l, h⟩, (Classical.choose_spec (⟨l, h⟩ : ∃ l, ScanIs f (keyOf 78 [y]) l)).same h]
def shGivenSpec : Vm.Spec := fun args h Q => ∃ (V : VId) (f : Fun) (year id : Int), args = [.agg [.ptr V.iv 0, .v (.int .i64 year)], .v (.int .i64 id)] ∧ isView h V f ∧ f.n ≤ 536870912 ∧ ∀ h', isView h' V f → Same h h' [] → Q (.v (.int .i64 (underF f year id))) h'
theorem does_shGiven : Does Tryz.prog 99 shGivenSpec := by
 refine dA (good_cons does_tkids (good_cons does_given good_nil)) Tryz.func99 rfl (by decide +kernel) ?_
 rintro args h Q ⟨V, f, year, id, rfl, hV, hn, hq⟩
 refine ⟨by simp [Tryz.f99], ?_⟩
 simp -dsimp only [Vm.G, zA, zB, zC, zD, zE, zF, q99.1]
 refine call_one (S := tkidsSpec) rfl _ GaL.rfl ⟨V, f, year, id, rfl, hV, hn, fun l h1 hsc hln hV1 hs1 => ?_⟩
 have hu := underF_eq hsc id
 have hkl : (kidsN year id l).length ≤ l.length := Nat.le_trans (List.length_filter_le ..) (List.length_filterMap_le ..)
 simp -dsimp only [Vm.G, zA, zB, zC, zD, zE, zF, q99.1]
 refine call_one (S := givenSpec) rfl _ GaL.rfl ⟨kidsN year id l, by omega, rfl, ?_⟩
 rw [← hu]
 simp -dsimp only [Vm.G, zA, zB, zC, zD, zE, zF, q99.1]
 exact hq h1 hV1 hs1
def classSpec : Vm.Spec := fun args h Q => ∃ n : Int, args = [.v (.int .i64 n)] ∧ Q (.v (.int .i64 (classOf n))) h
theorem does_class : Does Tryz.prog 135 classSpec := by
 refine dA (good_cons does_objP good_nil) Tryz.func135 rfl (by decide +kernel) ?_
 rintro args h Q ⟨n, rfl, hq⟩
 refine ⟨by simp [Tryz.f135], ?_⟩
 unfold classOf at hq
 simp -dsimp only [Vm.G, zA, zB, zC, zD, zE, zF, q135.1]
 refine call_one (S := predSpec objP) rfl _ GaL.rfl ⟨n, rfl, ?_⟩
 have h0 := zIa (objP n)
 rcases h0 with c | c
 · have hr : 1000 ≤ n ∧ n ≤ 5999 := by unfold objP at c; simpa using c
   have hw : IntKind.i64.wrap (n.tdiv 1000) = n.tdiv 1000 := by
     have : n.tdiv 1000 = n / 1000 := Int.tdiv_eq_ediv_of_nonneg (by omega)
     rw [this]
     exact wrap_i64 (by omega) (by omega)
   rw [if_pos c] at hq
   simp -dsimp only [Vm.G, zA, zB, zC, zD, zE, zF, q135.1, c]
   refine quo_intro (by decide) ?_
   simp -dsimp only [Vm.G, zA, zB, zC, zD, zE, zF, q135.1, hw]
   exact hq
 · rw [c] at hq
   simp only [Bool.false_eq_true, if_false] at hq
   simp -dsimp only [Vm.G, zA, zB, zC, zD, zE, zF, q135.1, c]
   exact hq
def fairSpec : Vm.Spec := fun args h Q => ∃ n : Nd, args = [.agg (ndCells n)] ∧ Q (.v (.int .i64 (fairN n))) h
theorem does_fair : Does Tryz.prog 54 fairSpec := by
 refine dA (good_cons does_class good_nil) Tryz.func54 rfl (by decide +kernel) ?_
 rintro args h Q ⟨n, rfl, hq⟩
 refine ⟨by simp [Tryz.f54], ?_⟩
 unfold fairN at hq
 simp only [ndCells]
 by_cases h1 : n.id < 1
 · rw [if_pos (.inl h1)] at hq
   have c1 : decide (n.id < 1) = true := decide_eq_true h1
   simp -dsimp only [Vm.G, zA, zB, zC, zD, zE, zF, q54.1, c1]
   exact hq
 · have c1 : decide (n.id < 1) = false := decide_eq_false h1
   by_cases h2 : n.id > 999
   · rw [if_pos (.inr h2)] at hq
     have c2 : decide (n.id > 999) = true := decide_eq_true h2
     simp -dsimp only [Vm.G, zA, zB, zC, zD, zE, zF, q54.1, c1, c2]
     exact hq
   · rw [if_neg (by omega)] at hq
     have c2 : decide (n.id > 999) = false := decide_eq_false h2
     by_cases h3 : n.limit < 0
     · rw [if_pos (.inl h3)] at hq
       have c3 : decide (n.limit < 0) = true := decide_eq_true h3
       simp -dsimp only [Vm.G, zA, zB, zC, zD, zE, zF, q54.1, c1, c2, c3]
       exact hq
     · have c3 : decide (n.limit < 0) = false := decide_eq_false h3
       by_cases h4 : n.limit > 9007199254740992
       · rw [if_pos (.inr h4)] at hq
         have c4 : decide (n.limit > 9007199254740992) = true := decide_eq_true h4
         simp -dsimp only [Vm.G, zA, zB, zC, zD, zE, zF, q54.1, c1, c2, c3, c4]
         exact hq
       · rw [if_neg (by omega)] at hq
         have c4 : decide (n.limit > 9007199254740992) = false := decide_eq_false h4
         simp -dsimp only [Vm.G, zA, zB, zC, zD, zE, zF, q54.1, c1, c2, c3, c4]
         refine call_one (S := classSpec) rfl _ GaL.rfl ⟨n.obj, rfl, ?_⟩
         have h0 := zIa (classOf n.obj != 5)
         rcases h0 with c | c
         · rw [if_pos (by simpa using c)] at hq
           simp -dsimp only [Vm.G, zA, zB, zC, zD, zE, zF, q54.1, c]
           exact hq
         · rw [if_neg (by simpa using c)] at hq
           simp -dsimp only [Vm.G, zA, zB, zC, zD, zE, zF, q54.1, c]
           exact hq
def knownSpec : Vm.Spec := fun args h Q => ∃ (V : VId) (f : Fun) (n : Nd) (y : Int), args = [.agg [.ptr V.iv 0, .v (.int .i64 y)], .agg (ndCells n)] ∧ isView h V f ∧ Q (.v (.bool (knownN f n))) h
theorem does_known : Does Tryz.prog 55 knownSpec := by
 refine dA (good_cons does_cFund (good_cons does_tget (good_cons does_cObj good_nil))) Tryz.func55 rfl (by decide +kernel) ?_
 rintro args h Q ⟨V, f, n, y, rfl, hV, hq⟩
 refine ⟨by simp [Tryz.f55], ?_⟩
 simp only [ndCells]
 unfold knownN at hq
 simp -dsimp only [Vm.G, zA, zB, zC, zD, zE, zF, q55.1]
 refine call_one (S := cFundSpec) rfl _ GaL.rfl ⟨V, f, n.fund, rfl, hV, fun s hs => ?_, fun hs => ?_⟩
 · rw [hs] at hq
   simp only [Option.isSome_some, Bool.true_and] at hq
   simp -dsimp only [Vm.G, zA, zB, zC, zD, zE, zF, q55.1]
   refine call_one (S := tgetSpec) rfl _ GaL.rfl ⟨V, f, n.year, n.parent, rfl, hV, fun m hm => ?_, fun hm => ?_⟩
   · rw [hm] at hq
     simp only [Option.isSome_some, Bool.or_true, Bool.and_true] at hq
     simp only [ndCells]
     simp -dsimp only [Vm.G, zA, zB, zC, zD, zE, zF, q55.1]
     refine call_one (S := cObjSpec) rfl _ GaL.rfl ⟨V, f, n.obj, rfl, hV, ?_⟩
     have h0 := zIa (objOk f n.obj)
     rcases h0 with c | c
     · rw [c] at hq
       have h0 := zIa (n.parent == 0)
       rcases h0 with c2 | c2
       · simp -dsimp only [Vm.G, zA, zB, zC, zD, zE, zF, q55.1, c, c2]
         exact hq
       · simp -dsimp only [Vm.G, zA, zB, zC, zD, zE, zF, q55.1, c, c2]
         exact hq
     · rw [c] at hq
       simp -dsimp only [Vm.G, zA, zB, zC, zD, zE, zF, q55.1, c]
       exact hq
   · rw [hm] at hq
     simp only [Option.isSome_none, Bool.or_false] at hq
     simp only [ndCells]
     simp -dsimp only [Vm.G, zA, zB, zC, zD, zE, zF, q55.1]
     refine call_one (S := cObjSpec) rfl _ GaL.rfl ⟨V, f, n.obj, rfl, hV, ?_⟩
     have h0 := zIa (objOk f n.obj)
     rcases h0 with c | c
     · rw [c] at hq
       have h0 := zIa (n.parent == 0)
       rcases h0 with c2 | c2
       · rw [c2] at hq
         simp -dsimp only [Vm.G, zA, zB, zC, zD, zE, zF, q55.1, c, c2]
         exact hq
       · rw [c2] at hq
         simp -dsimp only [Vm.G, zA, zB, zC, zD, zE, zF, q55.1, c, c2]
         exact hq
     · rw [c] at hq
       simp -dsimp only [Vm.G, zA, zB, zC, zD, zE, zF, q55.1, c]
       exact hq
 · rw [hs] at hq
   simp only [Option.isSome_none, zRa] at hq
   simp -dsimp only [Vm.G, zA, zB, zC, zD, zE, zF, q55.1]
   refine call_one (S := tgetSpec) rfl _ GaL.rfl ⟨V, f, n.year, n.parent, rfl, hV, fun m hm => ?_, fun hm => ?_⟩
   · simp only [ndCells]
     simp -dsimp only [Vm.G, zA, zB, zC, zD, zE, zF, q55.1]
     exact hq
   · simp only [ndCells]
     simp -dsimp only [Vm.G, zA, zB, zC, zD, zE, zF, q55.1]
     exact hq
def belowSpec : Vm.Spec := fun args h Q => ∃ (V : VId) (f : Fun) (n : Nd), args = [.agg [.ptr V.iv 0, .v (.int .i64 n.year)], .agg (ndCells n)] ∧ isView h V f ∧ f.n ≤ 536870912 ∧ (n.parent ≠ 0 → (nodeAt f n.year n.parent).isSome = true) ∧
 ∀ h', isView h' V f → Same h h' [] → Q (.v (.int .i64 (belowN f n (underF f n.year n.parent)))) h'
theorem path_hdS {f : Fun} {y i : Int} (h : (nodeAt f y i).isSome = true) : ∃ p r, pathOf f y 8 i = p :: r := by
 cases hn : nodeAt f y i with
 | none => rw [hn] at h; cases h
 | some p =>
   unfold pathOf
   rw [hn]
   simp only
   split <;> exact ⟨_, _, rfl⟩
theorem does_below : Does Tryz.prog 57 belowSpec := by
 refine dA (good_cons does_tpath (good_cons does_shGiven good_nil)) Tryz.func57 rfl (by decide +kernel) ?_
 rintro args h Q ⟨V, f, n, rfl, hV, hn, hup, hq⟩
 refine ⟨by simp [Tryz.f57], ?_⟩
 unfold belowN at hq
 simp only [ndCells]
 by_cases h1 : n.parent = 0
 · have c1 : (n.parent == 0) = true := by simpa using h1
   rw [if_pos h1] at hq
   simp -dsimp only [Vm.G, zA, zB, zC, zD, zE, zF, q57.1, c1]
   exact hq h hV (.refl _ _)
 · have c1 : (n.parent == 0) = false := by simpa using h1
   rw [if_neg h1] at hq
   have hpe := path_hdS (hup h1)
   rcases hpe with ⟨p, r, hpr⟩
   simp -dsimp only [Vm.G, zA, zB, zC, zD, zE, zF, q57.1, c1]
   refine call_one (S := tpathSpec) rfl _ GaL.rfl ⟨V, f, n.year, n.parent, rfl, hV, ?_⟩
   generalize pathOf f n.year 8 n.parent = P at hpr hq ⊢
   by_cases h2 : 8 ≤ P.length
   · have c2 : decide ((P.length : Int) ≥ 8) = true := decide_eq_true (by omega)
     rw [if_pos h2] at hq
     simp -dsimp only [Vm.G, zA, zB, zC, zD, zE, zF, q57.1, c2, zJa]
     exact hq h hV (.refl _ _)
   · have c2 : decide ((P.length : Int) ≥ 8) = false := decide_eq_false (by omega)
     rw [if_neg h2] at hq
     have hgl : (P.map ndAv)[0]? = some (ndAv p) := by rw [hpr]; rfl
     have hhd : P.headD .zero = p := by rw [hpr]; rfl
     have hPl : 0 < P.length := by rw [hpr]; simp
     rw [hhd] at hq
     simp -dsimp only [Vm.G, zA, zB, zC, zD, zE, zF, q57.1, c2, zJa]
     refine draw_cont [2, 3] (.take 0 (.take 1 (.take 2 (.take 4 (.take 5 (.take 7 (.take 8 (.take 9 (.alt 3 (.take 6 (.alt 10 (.take 11 (.alt 12 (.done) .stop)) .stop)) (.alt 10 (.alt 3 (.take 6 (.take 11 (.alt 12 (.done) .stop))) .stop) (.stop))))))))))) (fun s h' => isView h' V f ∧ Same h h' [] ∧ s 20 = .v (.bool (decide (w64 (underF f n.year n.parent + n.limit) > p.limit)))) (by kernel_rfl) (by kernel_rfl) (by kernel_rfl) (by decide) ?_ ?_
     · clear hq
       repeat' first
         | with_reducible exact True.intro
         | refine call_one (S := shGivenSpec) rfl _ GaL.rfl ⟨V, f, n.year, n.parent, rfl, hV, hn, fun h1 hV1 hs1 => ?_⟩
         | (refine eltA_intro hgl ?_; simp only [ndAv, ndCells])
         | refine idxO_intro (by omega) (by simp; omega) ?_
         | simp -dsimp only [Vm.G, zA, zB, zC, zD, zE, zF, q57.1, AV.cells, zMb, zJa, Int.toNat_zero]
         | refine tree_alt ?_ ?_
         | refine ⟨hV1, hs1, ?_⟩
         | repeat' first | rfl | exact True.intro | refine And.intro ?_ ?_
     · rintro s h' ⟨hV1, hs1, e20⟩
       have hq' := hq h' hV1 hs1
       by_cases h3 : w64 (underF f n.year n.parent + n.limit) > p.limit
       · rw [if_pos h3] at hq'
         rw [decide_eq_true h3] at e20
         simp -dsimp only [Vm.G, zA, zB, zC, zD, zE, zF, q57.1, e20]
         exact hq'
       · rw [if_neg h3] at hq'
         rw [decide_eq_false h3] at e20
         simp -dsimp only [Vm.G, zA, zB, zC, zD, zE, zF, q57.1, e20]
         exact hq'
noncomputable def shNew (f : Fun) (n : Nd) : Fun × Int := shiftNew f n (underF f n.year n.parent)
def shNewSpec : Vm.Spec := fun args h Q => ∃ (V : VId) (f : Fun) (n : Nd), n.ok ∧ args = [.ptr V.iv 0, .agg (ndCells n)] ∧ isView h V f ∧ f.n ≤ 536870912 ∧ ∀ h', isView h' V (shNew f n).1 → Same h h' [V.ic] → Q (.v (.int .i64 (shNew f n).2)) h'
theorem Same.wideN {h h' : Heap} {fp : List Nat} (hs : Same h h' []) : Same h h' fp := ⟨hs.1, fun i hi _ => hs.2 i hi (by simp)⟩
theorem does_shNew : Does Tryz.prog 19 shNewSpec := by
 refine dA (good_cons does_yCheck (good_cons does_fair (good_cons does_known (good_cons does_tget (good_cons does_below (good_cons does_tput good_nil)))))) Tryz.func19 rfl (by decide +kernel) ?_
 rintro args h Q ⟨V, f, n, hok, rfl, hV, hn, hq⟩
 refine ⟨by simp [Tryz.f19], ?_⟩
 unfold shNew shiftNew at hq
 simp only [ndCells]
 simp -dsimp only [Vm.G, zA, zB, zC, zD, zE, zF, q19.1]
 refine call_one (S := yCheckSpec) rfl _ GaL.rfl ⟨V, f, n.year, rfl, hV, ?_⟩
 have h0 := zIa (checkY f n.year != 0)
 rcases h0 with c1 | c1
 · rw [if_pos (by simpa using c1)] at hq
   simp -dsimp only [Vm.G, zA, zB, zC, zD, zE, zF, q19.1, c1]
   exact hq h hV (.refl _ _)
 · rw [if_neg (by simpa using c1)] at hq
   simp -dsimp only [Vm.G, zA, zB, zC, zD, zE, zF, q19.1, c1]
   refine call_one (S := fairSpec) rfl _ GaL.rfl ⟨n, rfl, ?_⟩
   have h0 := zIa (fairN n != 0)
   rcases h0 with c2 | c2
   · rw [if_pos (by simpa using c2)] at hq
     simp -dsimp only [Vm.G, zA, zB, zC, zD, zE, zF, q19.1, c2]
     exact hq h hV (.refl _ _)
   · rw [if_neg (by simpa using c2)] at hq
     simp -dsimp only [Vm.G, zA, zB, zC, zD, zE, zF, q19.1, c2]
     refine call_one (S := knownSpec) rfl _ GaL.rfl ⟨V, f, n, n.year, rfl, hV, ?_⟩
     have h0 := zIa (knownN f n)
     rcases h0 with c3 | c3
     · rw [if_neg (by rw [c3]; decide)] at hq
       simp -dsimp only [Vm.G, zA, zB, zC, zD, zE, zF, q19.1, c3]
       have hup : n.parent ≠ 0 → (nodeAt f n.year n.parent).isSome = true := fun hp => by
         unfold knownN at c3
         simp only [zSa, Bool.or_eq_true, beq_iff_eq] at c3
         exact c3.2.2.resolve_left hp
       refine call_one (S := tgetSpec) rfl _ GaL.rfl ⟨V, f, n.year, n.id, rfl, hV, fun m hm => ?_, fun hm => ?_⟩
       · rw [if_pos (by rw [hm]; rfl)] at hq
         simp only [ndCells]
         simp -dsimp only [Vm.G, zA, zB, zC, zD, zE, zF, q19.1]
         exact hq h hV (.refl _ _)
       · rw [if_neg (by rw [hm]; decide)] at hq
         simp only [ndCells]
         simp -dsimp only [Vm.G, zA, zB, zC, zD, zE, zF, q19.1]
         refine call_one (S := belowSpec) rfl _ GaL.rfl ⟨V, f, n, rfl, hV, hn, hup, fun h1 hV1 hs1 => ?_⟩
         have h0 := zIa (belowN f n (underF f n.year n.parent) != 0)
         rcases h0 with c4 | c4
         · rw [if_pos (by simpa using c4)] at hq
           simp -dsimp only [Vm.G, zA, zB, zC, zD, zE, zF, q19.1, c4]
           exact hq h1 hV1 hs1.wideN
         · rw [if_neg (by simpa using c4)] at hq
           simp -dsimp only [Vm.G, zA, zB, zC, zD, zE, zF, q19.1, c4]
           refine call_one (S := tputSpec) rfl _ GaL.rfl ⟨V, f, bareOf n, rfl, bare_ok hok, hV1, fun h2 hV2 hs2 => ?_⟩
           simp -dsimp only [Vm.G, zA, zB, zC, zD, zE, zF, q19.1]
           exact hq h2 hV2 (hs1.wideN.trans hs2)
     · rw [if_pos c3] at hq
       simp -dsimp only [Vm.G, zA, zB, zC, zD, zE, zF, q19.1, c3]
       exact hq h hV (.refl _ _)
def shLimitSpec : Vm.Spec := fun args h Q => ∃ (V : VId) (f : Fun) (n : Nd) (to : Int), n.ok ∧ args = [.agg [.ptr V.iv 0, .v (.int .i64 n.year)], .agg (ndCells n), .v (.int .i64 to)] ∧ isView h V f ∧ f.n ≤ 536870912 ∧
 ∀ h', isView h' V (limitF f n to (underF f n.year n.id)).1 → Same h h' [V.ic] → Q (.tup [.v (.bool (limitF f n to (underF f n.year n.id)).2.1), .v (.int .i64 (limitF f n to (underF f n.year n.id)).2.2)]) h'
theorem does_shLimit : Does Tryz.prog 100 shLimitSpec := by
 refine dA (good_cons does_used (good_cons does_shGiven (good_cons does_tput good_nil))) Tryz.func100 rfl (by decide +kernel) ?_
 rintro args h Q ⟨V, f, n, to, hok, rfl, hV, hn, hq⟩
 refine ⟨by simp [Tryz.f100], ?_⟩
 unfold limitF at hq
 simp only [ndCells]
 simp -dsimp only [Vm.G, zA, zB, zC, zD, zE, zF, q100.1]
 refine call_one (S := usedSpec) rfl _ GaL.rfl ⟨n, rfl, ?_⟩
 by_cases h1 : to < 0
 · have c1 : decide (to < 0) = true := decide_eq_true h1
   rw [if_pos (.inl h1)] at hq
   simp -dsimp only [Vm.G, zA, zB, zC, zD, zE, zF, q100.1, c1]
   exact hq h hV (.refl _ _)
 · have c1 : decide (to < 0) = false := decide_eq_false h1
   by_cases h2 : to > 1152921504606846976
   · have c2 : decide (to > 1152921504606846976) = true := decide_eq_true h2
     rw [if_pos (.inr h2)] at hq
     simp -dsimp only [Vm.G, zA, zB, zC, zD, zE, zF, q100.1, c1, c2]
     exact hq h hV (.refl _ _)
   · have c2 : decide (to > 1152921504606846976) = false := decide_eq_false h2
     rw [if_neg (by omega)] at hq
     simp -dsimp only [Vm.G, zA, zB, zC, zD, zE, zF, q100.1, c1, c2]
     refine call_one (S := shGivenSpec) rfl _ GaL.rfl ⟨V, f, n.year, n.id, rfl, hV, hn, fun h3 hV3 hs3 => ?_⟩
     generalize underF f n.year n.id = g at hq ⊢
     by_cases h4 : g > to
     · have c4 : decide (g > to) = true := decide_eq_true h4
       rw [if_pos (.inl h4)] at hq
       simp -dsimp only [Vm.G, zA, zB, zC, zD, zE, zF, q100.1, c4]
       exact hq h3 hV3 hs3.wideN
     · have c4 : decide (g > to) = false := decide_eq_false h4
       have hbe : ∃ b, decide (usedOf n > to) = b := ⟨_, rfl⟩
       rcases hbe with ⟨b, hb⟩
       have hae : ∃ a, n.abs = a := ⟨_, rfl⟩
       rcases hae with ⟨a, ha⟩
       have hput := limit_ok (to := to) hok (by omega)
       rw [hb] at hq
       cases a
       · rw [if_neg (by rw [ha]; rintro (h | ⟨h, -⟩); exact h4 h; cases h)] at hq
         simp -dsimp only [Vm.G, zA, zB, zC, zD, zE, zF, q100.1, c4, ha, hb]
         refine call_one (S := tputSpec) rfl _ GaL.rfl ⟨V, f, { n with limit := to }, by simp only [ndCells, ha], hput, hV3, fun h5 hV5 hs5 => ?_⟩
         simp -dsimp only [Vm.G, zA, zB, zC, zD, zE, zF, q100.1]
         exact hq h5 hV5 (hs3.wideN.trans hs5)
       · cases b
         · have h6 : ¬ usedOf n > to := of_decide_eq_false hb
           rw [if_neg (by rintro (h | ⟨-, h⟩); exact h4 h; exact h6 h)] at hq
           simp -dsimp only [Vm.G, zA, zB, zC, zD, zE, zF, q100.1, c4, ha, hb]
           refine call_one (S := tputSpec) rfl _ GaL.rfl ⟨V, f, { n with limit := to }, by simp only [ndCells, ha], hput, hV3, fun h5 hV5 hs5 => ?_⟩
           simp -dsimp only [Vm.G, zA, zB, zC, zD, zE, zF, q100.1]
           exact hq h5 hV5 (hs3.wideN.trans hs5)
         · have h6 : usedOf n > to := of_decide_eq_true hb
           rw [if_pos (.inr ⟨ha, h6⟩)] at hq
           simp -dsimp only [Vm.G, zA, zB, zC, zD, zE, zF, q100.1, c4, ha, hb]
           exact hq h3 hV3 hs3.wideN
noncomputable def shAmend (f : Fun) (year id more : Int) : Fun × Bool × Int := amendF f year id more (match nodeAt f year id with | some n => underF f year n.parent | none => 0) (underF f year id)
theorem limit_n (f : Fun) (n : Nd) (to g : Int) : (limitF f n to g).1.n ≤ f.n + 1 := by
 unfold limitF
 split
 · exact Nat.le_succ _
 · split
   · exact Nat.le_succ _
   · exact zNb _
def shAmendSpec : Vm.Spec := fun args h Q => ∃ (V : VId) (f : Fun) (year id more : Int), I64 more ∧ args = [.ptr V.iv 0, .v (.int .i64 year), .v (.int .i64 id), .v (.int .i64 more)] ∧ isView h V f ∧ f.n ≤ 536870912 ∧
 ∀ h', isView h' V (shAmend f year id more).1 → Same h h' [V.ic] → Q (.tup [.v (.bool (shAmend f year id more).2.1), .v (.int .i64 (shAmend f year id more).2.2)]) h'
theorem does_shAmend : Does Tryz.prog 36 shAmendSpec := by
 refine dA (good_cons does_yCheck (good_cons does_tget (good_cons does_shGiven (good_cons does_shLimit good_nil)))) Tryz.func36 rfl (by decide +kernel) ?_
 rintro args h Q ⟨V, f, year, id, more, hmo, rfl, hV, hn, hq⟩
 refine ⟨by simp [Tryz.f36], ?_⟩
 unfold shAmend amendF at hq
 simp -dsimp only [Vm.G, zA, zB, zC, zD, zE, zF, q36.1]
 refine call_one (S := yCheckSpec) rfl _ GaL.rfl ⟨V, f, year, rfl, hV, ?_⟩
 have h0 := zIa (checkY f year != 0)
 rcases h0 with c1 | c1
 · rw [if_pos (by simpa using c1)] at hq
   simp -dsimp only [Vm.G, zA, zB, zC, zD, zE, zF, q36.1, c1]
   exact hq h hV (.refl _ _)
 · rw [if_neg (by simpa using c1)] at hq
   have h0 := zIa (decide (more > 9007199254740992))
   rcases h0 with c2 | c2
   · rw [if_pos (.inl (of_decide_eq_true c2))] at hq
     simp -dsimp only [Vm.G, zA, zB, zC, zD, zE, zF, q36.1, c1, c2]
     exact hq h hV (.refl _ _)
   · have h0 := zIa (decide (more < -9007199254740992))
     rcases h0 with c3 | c3
     · rw [if_pos (.inr (of_decide_eq_true c3))] at hq
       simp -dsimp only [Vm.G, zA, zB, zC, zD, zE, zF, q36.1, c1, c2, c3]
       exact hq h hV (.refl _ _)
     · have d2 := of_decide_eq_false c2
       have d3 := of_decide_eq_false c3
       rw [if_neg (by omega)] at hq
       simp -dsimp only [Vm.G, zA, zB, zC, zD, zE, zF, q36.1, c1, c2, c3]
       refine call_one (S := tgetSpec) rfl _ GaL.rfl ⟨V, f, year, id, rfl, hV, fun n hm => ?_, fun hm => ?_⟩
       · rw [hm] at hq
         simp only at hq
         have hns := nodeAt_some hm
         rcases hns with ⟨hny, hni, -⟩
         simp only [ndCells]
         simp -dsimp only [Vm.G, zA, zB, zC, zD, zE, zF, q36.1]
         refine call_one (S := tgetSpec) rfl _ GaL.rfl ⟨V, f, year, n.parent, rfl, hV, fun up hu => ?_, fun hu => ?_⟩
         · rw [hu] at hq
           simp only at hq
           have hui := nodeAt_id hu
           simp only [ndCells]
           simp -dsimp only [Vm.G, zA, zB, zC, zD, zE, zF, q36.1]
           refine draw_cont [11, 14] (.take 0 (.take 1 (.take 3 (.take 6 (.take 8 (.alt 2 (.alt 4 (.alt 5 (.take 7 (.alt 9 (.take 10 (.take 11 (.done))) .stop)) (.alt 9 (.alt 5 (.take 7 (.take 10 (.take 11 (.done)))) .stop) (.stop))) (.alt 9 (.alt 4 (.alt 5 (.take 7 (.take 10 (.take 11 (.done)))) .stop) .stop) (.stop))) (.alt 4 (.alt 2 (.alt 5 (.take 7 (.alt 9 (.take 10 (.take 11 (.done))) .stop)) (.alt 9 (.alt 5 (.take 7 (.take 10 (.take 11 (.done)))) .stop) (.stop))) (.alt 9 (.alt 2 (.alt 5 (.take 7 (.take 10 (.take 11 (.done)))) .stop) .stop) (.stop))) (.alt 9 (.alt 2 (.alt 4 (.alt 5 (.take 7 (.take 10 (.take 11 (.done)))) .stop) .stop) (.alt 4 (.alt 2 (.alt 5 (.take 7 (.take 10 (.take 11 (.done)))) .stop) .stop) (.stop))) (.stop))))))))) (fun s h' => isView h' V f ∧ Same h h' [] ∧ s 59 = .v (.bool (decide (w64 (underF f year n.parent + more) > up.limit))) ∧ s 0 = .ptr V.iv 0 ∧ s 3 = .v (.int .i64 more) ∧ s 11 = .eptr [.ptr V.iv 0, .v (.int .i64 year)] ∧ s 12 = .box (ndCells n)) (by kernel_rfl) (by kernel_rfl) (by kernel_rfl) (by decide) ?_ ?_
           · clear hq
             simp only [ndCells]
             repeat' first
               | with_reducible exact True.intro
               | refine call_one (S := shGivenSpec) rfl _ GaL.rfl ⟨V, f, year, n.parent, by rw [hui], hV, hn, fun h1 hV1 hs1 => ?_⟩
               | simp -dsimp only [Vm.G, zA, zB, zC, zD, zE, zF, q36.1]
               | refine tree_alt ?_ ?_
               | refine ⟨hV1, hs1, ?_⟩
               | repeat' first | rfl | exact True.intro | refine And.intro ?_ ?_
           · rintro s h' ⟨hV1, hs1, e59, e0, e3, e11, e12⟩
             simp only [ndCells] at e12
             have h0 := zIa (decide (w64 (underF f year n.parent + more) > up.limit))
             rcases h0 with c4 | c4
             · rw [if_pos (of_decide_eq_true c4)] at hq
               rw [c4] at e59
               simp -dsimp only [Vm.G, zA, zB, zC, zD, zE, zF, q36.1, e59]
               exact hq h' hV1 hs1.wideN
             · rw [if_neg (of_decide_eq_false c4)] at hq
               rw [c4] at e59
               simp -dsimp only [Vm.G, zA, zB, zC, zD, zE, zF, q36.1, e59, e0, e3, e11, e12]
               refine call_one (S := shLimitSpec) rfl _ GaL.rfl ⟨V, f, n, w64 (n.limit + more), nodeAt_ok hm, by simp only [ndCells, hny], hV1, hn, fun h5 hV5 hs5 => ?_⟩
               rw [hny, hni] at hV5 ⊢
               simp -dsimp only [Vm.G, zA, zB, zC, zD, zE, zF, q36.1, e59, e0]
               exact hq h5 hV5 (hs1.wideN.trans hs5)
         · rw [hu] at hq
           simp only at hq
           simp only [ndCells]
           simp -dsimp only [Vm.G, zA, zB, zC, zD, zE, zF, q36.1]
           refine draw_cont [11, 14] (.take 0 (.take 1 (.take 3 (.take 6 (.take 8 (.alt 2 (.alt 4 (.alt 5 (.take 7 (.alt 9 (.take 10 (.take 11 (.done))) .stop)) (.alt 9 (.alt 5 (.take 7 (.take 10 (.take 11 (.done)))) .stop) (.stop))) (.alt 9 (.alt 4 (.alt 5 (.take 7 (.take 10 (.take 11 (.done)))) .stop) .stop) (.stop))) (.alt 4 (.alt 2 (.alt 5 (.take 7 (.alt 9 (.take 10 (.take 11 (.done))) .stop)) (.alt 9 (.alt 5 (.take 7 (.take 10 (.take 11 (.done)))) .stop) (.stop))) (.alt 9 (.alt 2 (.alt 5 (.take 7 (.take 10 (.take 11 (.done)))) .stop) .stop) (.stop))) (.alt 9 (.alt 2 (.alt 4 (.alt 5 (.take 7 (.take 10 (.take 11 (.done)))) .stop) .stop) (.alt 4 (.alt 2 (.alt 5 (.take 7 (.take 10 (.take 11 (.done)))) .stop) .stop) (.stop))) (.stop))))))))) (fun s h' => h' = h ∧ s 59 = .v (.bool false) ∧ s 0 = .ptr V.iv 0 ∧ s 3 = .v (.int .i64 more) ∧ s 11 = .eptr [.ptr V.iv 0, .v (.int .i64 year)] ∧ s 12 = .box (ndCells n)) (by kernel_rfl) (by kernel_rfl) (by kernel_rfl) (by decide) ?_ ?_
           · clear hq
             simp only [ndCells]
             repeat' first
               | with_reducible exact True.intro
               | simp -dsimp only [Vm.G, zA, zB, zC, zD, zE, zF, q36.1]
               | refine tree_alt ?_ ?_
               | repeat' first | rfl | exact True.intro | refine And.intro ?_ ?_
           · rintro s h' ⟨rfl, e59, e0, e3, e11, e12⟩
             simp only [ndCells] at e12
             simp -dsimp only [Vm.G, zA, zB, zC, zD, zE, zF, q36.1, e59, e0, e3, e11, e12]
             refine call_one (S := shLimitSpec) rfl _ GaL.rfl ⟨V, f, n, w64 (n.limit + more), nodeAt_ok hm, by simp only [ndCells, hny], hV, hn, fun h5 hV5 hs5 => ?_⟩
             rw [hny, hni] at hV5 ⊢
             simp -dsimp only [Vm.G, zA, zB, zC, zD, zE, zF, q36.1, e59, e0]
             exact hq h5 hV5 hs5
       · rw [hm] at hq
         simp only at hq
         simp only [ndCells]
         simp -dsimp only [Vm.G, zA, zB, zC, zD, zE, zF, q36.1]
         exact hq h hV (.refl _ _)
noncomputable def shMove (f : Fun) (year frm to part : Int) : Fun × Bool × Int := moveF f year frm to part (underF f year frm) (match nodeAt f year frm with | some a => underF (limitF f a (w64 (a.limit - part)) (underF f year frm)).1 year to | none => 0)
def shMoveSpec : Vm.Spec := fun args h Q => ∃ (V : VId) (f : Fun) (year frm to part : Int), args = [.ptr V.iv 0, .v (.int .i64 year), .v (.int .i64 frm), .v (.int .i64 to), .v (.int .i64 part)] ∧ isView h V f ∧ f.n ≤ 536870900 ∧
 ∀ h', isView h' V (shMove f year frm to part).1 → Same h h' [V.ic] → Q (.tup [.v (.bool (shMove f year frm to part).2.1), .v (.int .i64 (shMove f year frm to part).2.2)]) h'
theorem does_shMove : Does Tryz.prog 38 shMoveSpec := by
 refine dA (good_cons does_yCheck (good_cons does_amtRight (good_cons does_tget (good_cons does_shLimit good_nil)))) Tryz.func38 rfl (by decide +kernel) ?_
 rintro args h Q ⟨V, f, year, frm, to, part, rfl, hV, hn, hq⟩
 refine ⟨by simp [Tryz.f38], ?_⟩
 unfold shMove moveF at hq
 simp -dsimp only [Vm.G, zA, zB, zC, zD, zE, zF, q38.1]
 refine call_one (S := yCheckSpec) rfl _ GaL.rfl ⟨V, f, year, rfl, hV, ?_⟩
 have h0 := zIa (checkY f year != 0)
 rcases h0 with c1 | c1
 · rw [if_pos (by simpa using c1)] at hq
   simp -dsimp only [Vm.G, zA, zB, zC, zD, zE, zF, q38.1, c1]
   exact hq h hV (.refl _ _)
 · rw [if_neg (by simpa using c1)] at hq
   simp -dsimp only [Vm.G, zA, zB, zC, zD, zE, zF, q38.1, c1]
   refine call_one (S := predSpec rightA) rfl _ GaL.rfl ⟨part, rfl, ?_⟩
   have h0 := zIa (rightA part)
   rcases h0 with c2 | c2
   · have h0 := zIa (frm == to)
     rcases h0 with c3 | c3
     · rw [if_pos (.inr (by simpa using c3))] at hq
       simp -dsimp only [Vm.G, zA, zB, zC, zD, zE, zF, q38.1, c2, c3]
       exact hq h hV (.refl _ _)
     · rw [if_neg (by rintro (h | h); rw [c2] at h; cases h; rw [h] at c3; simp at c3)] at hq
       simp -dsimp only [Vm.G, zA, zB, zC, zD, zE, zF, q38.1, c2, c3]
       refine call_one (S := tgetSpec) rfl _ GaL.rfl ⟨V, f, year, frm, rfl, hV, fun a ha => ?_, fun ha => ?_⟩
       · simp only [ndCells]
         simp -dsimp only [Vm.G, zA, zB, zC, zD, zE, zF, q38.1]
         refine call_one (S := tgetSpec) rfl _ GaL.rfl ⟨V, f, year, to, rfl, hV, fun z hz => ?_, fun hz => ?_⟩
         · rw [ha, hz] at hq
           simp only at hq
           have hs1 := nodeAt_some ha
           rcases hs1 with ⟨hay, hai, -⟩
           have hs1 := nodeAt_some hz
           rcases hs1 with ⟨hzy, hzi, -⟩
           simp only [ndCells]
           have h0 := zIa (a.parent != z.parent)
           rcases h0 with c4 | c4
           · rw [if_pos (by simpa using c4)] at hq
             simp -dsimp only [Vm.G, zA, zB, zC, zD, zE, zF, q38.1, c4]
             exact hq h hV (.refl _ _)
           · rw [if_neg (by simpa using c4)] at hq
             simp -dsimp only [Vm.G, zA, zB, zC, zD, zE, zF, q38.1, c4]
             refine call_one (S := shLimitSpec) rfl _ GaL.rfl ⟨V, f, a, w64 (a.limit - part), nodeAt_ok ha, by simp only [ndCells, hay], hV, by omega, fun h5 hV5 hs5 => ?_⟩
             rw [hay, hai] at hV5 ⊢
             have hln := limit_n f a (w64 (a.limit - part)) (underF f year frm)
             generalize limitF f a (w64 (a.limit - part)) (underF f year frm) = q at hq hV5 hln ⊢
             rcases q with ⟨f1, one, qe⟩
             simp only at hq hV5 hln ⊢
             have h0 := zIa (qe != 0)
             rcases h0 with c5 | c5
             · rw [if_pos (by simpa using c5)] at hq
               simp -dsimp only [Vm.G, zA, zB, zC, zD, zE, zF, q38.1, c5]
               exact hq h5 hV5 hs5
             · rw [if_neg (by simpa using c5)] at hq
               simp -dsimp only [Vm.G, zA, zB, zC, zD, zE, zF, q38.1, c5]
               refine call_one (S := shLimitSpec) rfl _ GaL.rfl ⟨V, f1, z, w64 (z.limit + part), nodeAt_ok hz, by simp only [ndCells, hzy], hV5, by omega, fun h6 hV6 hs6 => ?_⟩
               rw [hzy, hzi] at hV6 ⊢
               generalize limitF f1 z (w64 (z.limit + part)) (underF f1 year to) = q2 at hq hV6 ⊢
               rcases q2 with ⟨f2, two, qe2⟩
               simp only at hq hV6 ⊢
               have hq' := hq h6 hV6 (hs5.trans hs6)
               have h0 := zIa (qe2 == 0)
               rcases h0 with c6 | c6
               · rw [c6] at hq'
                 cases one
                 · simp -dsimp only [Vm.G, zA, zB, zC, zD, zE, zF, q38.1, c6]
                   exact hq'
                 · simp -dsimp only [Vm.G, zA, zB, zC, zD, zE, zF, q38.1, c6]
                   exact hq'
               · rw [c6] at hq'
                 simp -dsimp only [Vm.G, zA, zB, zC, zD, zE, zF, q38.1, c6]
                 exact hq'
         · rw [ha, hz] at hq
           simp only at hq
           simp only [ndCells]
           simp -dsimp only [Vm.G, zA, zB, zC, zD, zE, zF, q38.1]
           exact hq h hV (.refl _ _)
       · rw [ha] at hq
         simp only at hq
         simp only [ndCells]
         simp -dsimp only [Vm.G, zA, zB, zC, zD, zE, zF, q38.1]
         refine call_one (S := tgetSpec) rfl _ GaL.rfl ⟨V, f, year, to, rfl, hV, fun z hz => ?_, fun hz => ?_⟩
         · simp only [ndCells]
           simp -dsimp only [Vm.G, zA, zB, zC, zD, zE, zF, q38.1]
           exact hq h hV (.refl _ _)
         · simp only [ndCells]
           simp -dsimp only [Vm.G, zA, zB, zC, zD, zE, zF, q38.1]
           exact hq h hV (.refl _ _)
   · rw [if_pos (.inl c2)] at hq
     simp -dsimp only [Vm.G, zA, zB, zC, zD, zE, zF, q38.1, c2]
     exact hq h hV (.refl _ _)
theorem does_rSmall : Does Tryz.prog 228 (predSpec smallP) := by
 refine dA good_nil Tryz.func228 rfl (by decide +kernel) ?_
 rintro args h Q ⟨n, rfl, hq⟩
 refine ⟨by simp [Tryz.f228], ?_⟩
 unfold smallP at hq
 simp -dsimp only [Vm.G, zA, zB, zC, zD, zE, zF, q228.1]
 have h1 := zIa (decide (-1152921504606846976 ≤ n))
 rcases h1 with c1 | c1
 · rw [c1] at hq
   have c2 : decide (n ≥ -1152921504606846976) = true := c1
   simp -dsimp only [Vm.G, zA, zB, zC, zD, zE, zF, q228.1, c2]
   exact hq
 · rw [c1] at hq
   have c2 : decide (n ≥ -1152921504606846976) = false := c1
   simp -dsimp only [Vm.G, zA, zB, zC, zD, zE, zF, q228.1, c2]
   exact hq
theorem does_rFigure : Does Tryz.prog 179 (predSpec figureP) := by
 refine dA good_nil Tryz.func179 rfl (by decide +kernel) ?_
 rintro args h Q ⟨n, rfl, hq⟩
 refine ⟨by simp [Tryz.f179], ?_⟩
 unfold figureP at hq
 simp -dsimp only [Vm.G, zA, zB, zC, zD, zE, zF, q179.1]
 have h1 := zIa (decide (0 ≤ n))
 rcases h1 with c1 | c1
 · rw [c1] at hq
   have c2 : decide (n ≥ 0) = true := c1
   simp -dsimp only [Vm.G, zA, zB, zC, zD, zE, zF, q179.1, c2]
   exact hq
 · rw [c1] at hq
   have c2 : decide (n ≥ 0) = false := c1
   simp -dsimp only [Vm.G, zA, zB, zC, zD, zE, zF, q179.1, c2]
   exact hq
theorem does_rAmt : Does Tryz.prog 103 (predSpec rightA) := by
 refine dA good_nil Tryz.func103 rfl (by decide +kernel) ?_
 rintro args h Q ⟨n, rfl, hq⟩
 refine ⟨by simp [Tryz.f103], ?_⟩
 unfold rightA at hq
 simp -dsimp only [Vm.G, zA, zB, zC, zD, zE, zF, q103.1]
 have h1 := zIa (decide (1 ≤ n))
 rcases h1 with c1 | c1
 · rw [c1] at hq
   have c2 : decide (n ≥ 1) = true := c1
   simp -dsimp only [Vm.G, zA, zB, zC, zD, zE, zF, q103.1, c2]
   exact hq
 · rw [c1] at hq
   have c2 : decide (n ≥ 1) = false := c1
   simp -dsimp only [Vm.G, zA, zB, zC, zD, zE, zF, q103.1, c2]
   exact hq
theorem small_rng (n : Int) : smallP n = true ↔ -1152921504606846976 ≤ n ∧ n ≤ 1152921504606846976 := by simp [smallP]
theorem does_rAllows : Does Tryz.prog 180 allowsSpec := by
 refine dA (good_cons does_rtUsed (good_cons does_rSmall good_nil)) Tryz.func180 rfl (by decide +kernel) ?_
 rintro args h Q ⟨n, more, rfl, hq⟩
 refine ⟨by simp [Tryz.f180], ?_⟩
 unfold allowsOf at hq
 simp only [ndCells]
 simp -dsimp only [Vm.G, zA, zB, zC, zD, zE, zF, q180.1]
 refine call_one (S := usedSpec) rfl _ GaL.rfl ⟨n, rfl, ?_⟩
 simp -dsimp only [Vm.G, zA, zB, zC, zD, zE, zF, q180.1]
 have h1 := zIa (decide (more > 1152921504606846976))
 rcases h1 with c1 | c1
 · have d1 := of_decide_eq_true c1
   rw [if_pos (.inl d1)] at hq
   simp -dsimp only [Vm.G, zA, zB, zC, zD, zE, zF, q180.1, c1]
   exact hq
 · have d1 := of_decide_eq_false c1
   simp -dsimp only [Vm.G, zA, zB, zC, zD, zE, zF, q180.1, c1]
   refine call_one (S := predSpec smallP) rfl _ GaL.rfl ⟨usedOf n, rfl, ?_⟩
   have h2 := zIa (smallP (usedOf n))
   rcases h2 with c2 | c2
   · simp -dsimp only [Vm.G, zA, zB, zC, zD, zE, zF, q180.1, c2]
     refine call_one (S := predSpec smallP) rfl _ GaL.rfl ⟨n.limit, rfl, ?_⟩
     have h3 := zIa (smallP n.limit)
     rcases h3 with c3 | c3
     · rw [if_neg (by rw [c2, c3]; simpa using d1)] at hq
       have b2 := (small_rng _).1 c2
       have b3 := (small_rng _).1 c3
       simp -dsimp only [Vm.G, zA, zB, zC, zD, zE, zF, q180.1, c3]
       have h4 := zIa (decide (more < 1))
       rcases h4 with c4 | c4
       · rw [if_pos (.inl (of_decide_eq_true c4))] at hq
         simp -dsimp only [Vm.G, zA, zB, zC, zD, zE, zF, q180.1, c4]
         exact hq
       · have d4 := of_decide_eq_false c4
         have e : decide (IntKind.i64.wrap (usedOf n + more) ≤ n.limit) = decide (more ≤ w64 (n.limit - usedOf n)) := by
           have w1 : IntKind.i64.wrap (usedOf n + more) = usedOf n + more := wrap_i64 (by omega) (by omega)
           have w2 : w64 (n.limit - usedOf n) = n.limit - usedOf n := wrap_i64 (by omega) (by omega)
           rw [w1, w2]
           by_cases h : more ≤ n.limit - usedOf n
           · rw [decide_eq_true h, decide_eq_true (by omega)]
           · rw [decide_eq_false h, decide_eq_false (by omega)]
         have h5 := zIa (decide (more ≤ w64 (n.limit - usedOf n)))
         rcases h5 with c5 | c5
         · rw [if_pos (.inr (of_decide_eq_true c5))] at hq
           rw [c5] at e
           simp -dsimp only [Vm.G, zA, zB, zC, zD, zE, zF, q180.1, c4, e]
           exact hq
         · rw [if_neg (fun h => h.elim d4 (of_decide_eq_false c5))] at hq
           rw [c5] at e
           simp -dsimp only [Vm.G, zA, zB, zC, zD, zE, zF, q180.1, c4, e]
           have h6 := zIa n.abs
           rcases h6 with c6 | c6
           · rw [c6] at hq
             simp -dsimp only [Vm.G, zA, zB, zC, zD, zE, zF, q180.1, c6]
             exact hq
           · rw [c6] at hq
             simp -dsimp only [Vm.G, zA, zB, zC, zD, zE, zF, q180.1, c6]
             exact hq
     · rw [if_pos (.inr (by rw [c3]; simp))] at hq
       simp -dsimp only [Vm.G, zA, zB, zC, zD, zE, zF, q180.1, c3]
       exact hq
   · rw [if_pos (.inr (by rw [c2]; simp))] at hq
     simp -dsimp only [Vm.G, zA, zB, zC, zD, zE, zF, q180.1, c2]
     exact hq
theorem max3_le (a b c : Int) : decide ((if (if a < b then b else a) < c then c else (if a < b then b else a)) > 9007199254740992) = !(decide (a ≤ 9007199254740992) && (decide (b ≤ 9007199254740992) && decide (c ≤ 9007199254740992))) := by
 by_cases h1 : a ≤ 9007199254740992 <;> by_cases h2 : b ≤ 9007199254740992 <;> by_cases h3 : c ≤ 9007199254740992 <;> simp only [h1, h2, h3, decide_true, decide_false, Bool.and_true, zUa, Bool.true_and, zRa, Bool.not_true, Bool.not_false, decide_eq_true_eq, decide_eq_false_iff_not] <;> (repeat' split) <;> omega
theorem min3_ge (a b c : Int) : decide ((if c < (if b < a then b else a) then c else (if b < a then b else a)) < -9007199254740992) = !(decide (-9007199254740992 ≤ a) && (decide (-9007199254740992 ≤ b) && decide (-9007199254740992 ≤ c))) := by
 by_cases h1 : -9007199254740992 ≤ a <;> by_cases h2 : -9007199254740992 ≤ b <;> by_cases h3 : -9007199254740992 ≤ c <;> simp only [h1, h2, h3, decide_true, decide_false, Bool.and_true, zUa, Bool.true_and, zRa, Bool.not_true, Bool.not_false, decide_eq_true_eq, decide_eq_false_iff_not] <;> (repeat' split) <;> omega
theorem chgRight_rng (c : Chg) : chgRight c = true ↔ (-9007199254740992 ≤ c.pre ∧ c.pre ≤ 9007199254740992) ∧ (-9007199254740992 ≤ c.enc ∧ c.enc ≤ 9007199254740992) ∧ (-9007199254740992 ≤ c.exp ∧ c.exp ≤ 9007199254740992) := by
 simp [chgRight, withinP, and_assoc]
theorem chargeRun_cons (c : Chg) (n : Nd) (r : List Nd) (f : Fun) (w : Bool) : chargeRun c (n :: r) f w = if (atOf c n).2.2 ≠ 0 then (f, false, (atOf c n).2.2) else chargeRun c r (upd f (ndK (atOf c n).1) (some (ndV (atOf c n).1))) (w || (atOf c n).2.1) := rfl
theorem at_nine {c : Chg} {n : Nd} (h : figs n = false ∨ figs (addC c n) = false) : (atOf c n).2.2 = 9 := by
 unfold atOf
 by_cases h1 : figs n = false
 · rw [if_pos h1]
 · rw [if_neg h1, if_pos (h.resolve_left h1)]
def rChargeSpec : Vm.Spec := fun args h Q => ∃ (R : RId) (f : Fun) (year id : Int) (c : Chg), args = [.ptr R.iv 0, .v (.int .i64 year), .v (.int .i64 id), .v (.int .i64 c.pre), .v (.int .i64 c.enc), .v (.int .i64 c.exp)] ∧ isRef h R f ∧ f.n ≤ 536870900 ∧
 ∀ h', isRef h' R (chargeOf f year id c).1 → Same h h' (rFoot R) → Q (.tup [.v (.bool (chargeOf f year id c).2.1), .v (.int .i64 (chargeOf f year id c).2.2)]) h'
theorem does_rCharge : Does Tryz.prog 109 rChargeSpec := by
 refine dA (good_cons does_rtPath (good_cons does_rFigure (good_cons does_rAllows (good_cons does_rtPut good_nil)))) Tryz.func109 rfl (by decide +kernel) ?_
 rintro args h Q ⟨R, f, year, id, c, rfl, hR, hfn, hq⟩
 refine ⟨by simp [Tryz.f109], ?_⟩
 unfold chargeOf at hq
 simp -dsimp only [Vm.G, zA, zB, zC, zD, zE, zF, q109.1]
 refine call_one (S := rtPathSpec) rfl _ GaL.rfl ⟨R, f, year, id, rfl, hR, by omega, ?_⟩
 have hok := pathOf_ok f year 8 id
 have hlen := pathOf_length f year 8 id
 generalize pathOf f year 8 id = path at hok hlen hq ⊢
 simp -dsimp only [Vm.G, zA, zB, zC, zD, zE, zF, q109.1]
 have h1 := zIa ((path.length : Int) == 0)
 rcases h1 with c1 | c1
 · have d1 : path.length = 0 := by have : (path.length : Int) = 0 := by simpa using c1
                                   omega
   rw [if_pos d1] at hq
   simp -dsimp only [Vm.G, zA, zB, zC, zD, zE, zF, q109.1, c1]
   exact hq h hR (.refl _ _)
 · have d1 : ¬ path.length = 0 := by intro e; rw [e] at c1; simp at c1
   rw [if_neg d1] at hq
   have hmax := max3_le c.pre c.enc c.exp
   have hmin := min3_ge c.pre c.enc c.exp
   have hcr := chgRight_rng c
   simp -dsimp only [Vm.G, zA, zB, zC, zD, zE, zF, q109.1, c1]
   have h2 := zIa (decide (c.pre ≤ 9007199254740992) && (decide (c.enc ≤ 9007199254740992) && decide (c.exp ≤ 9007199254740992)))
   rcases h2 with c2 | c2
   · rw [c2] at hmax
     have h3 := zIa (decide (-9007199254740992 ≤ c.pre) && (decide (-9007199254740992 ≤ c.enc) && decide (-9007199254740992 ≤ c.exp)))
     rcases h3 with c3 | c3
     · rw [c3] at hmin
       simp only [zSa, decide_eq_true_eq] at c2 c3
       rw [if_neg (by rw [hcr.2 ⟨⟨c3.1, c2.1⟩, ⟨c3.2.1, c2.2.1⟩, ⟨c3.2.2, c2.2.2⟩⟩]; decide)] at hq
       clear hcr
       simp -dsimp only [Vm.G, zA, zB, zC, zD, zE, zF, q109.1, hmax, hmin]
       refine awp_loop (fun m s h' => ∃ (i : Nat) (g : Fun) (w : Bool), i + m = path.length ∧ isRef h' R g ∧ g.n ≤ f.n + i ∧ Same h h' (rFoot R) ∧ chargeRun c (path.drop i) g w = chargeRun c path f false ∧ s = mk [(0, .ptr R.iv 0), (3, .v (.int .i64 c.pre)), (4, .v (.int .i64 c.enc)), (5, .v (.int .i64 c.exp)), (14, .own true 29 12 (path.map ndAv)), (15, .v (.bool w)), (16, .v (.int .i64 (i : Nat)))])
         path.length _ (le_mk _ ?_) ⟨0, f, false, by omega, hR, by omega, .refl _ _, rfl, rfl⟩ ?_
       · simp only [Vm.D]
         try simp -dsimp only [Vm.G, zA, zB, zC, zD, zE, zF, q109.1]
         repeat' first | exact .refl _ | exact .nil _ _ _ (by decide) | refine ⟨?_, ?_⟩
       · clear hR hmax hmin
         rintro m s h' ⟨i, g, w, hi, hR, hgn, hsm, hp, rfl⟩
         simp -dsimp only [Vm.G, zA, zB, zC, zD, zE, zF, q109.1]
         refine cond_intro (fun hcc => ?_) (fun hcc => ?_)
         · have hlt : i < path.length := by have := of_decide_eq_true hcc; omega
           have hw := hwN i (by omega)
           have hn := hok path[i] (zMa hlt)
           have hgi : (path.map ndAv)[i]? = some (ndAv path[i]) := by rw [List.getElem?_map, zNa hlt]; rfl
           rw [zIb hlt] at hp
           generalize path[i] = n at hn hgi hp
           rw [chargeRun_cons] at hp
           simp -dsimp only [Vm.G, zA, zB, zC, zD, zE, zF, q109.1]
           refine idxO_intro (xs := path.map ndAv) (by omega) (by simp; omega) ?_
           simp -dsimp only [Vm.G, zA, zB, zC, zD, zE, zF, q109.1, zVa]
           refine eltA_intro (xs := path.map ndAv) hgi ?_
           simp only [ndAv, ndCells]
           simp -dsimp only [Vm.G, zA, zB, zC, zD, zE, zF, q109.1, AV.cells, zMb]
           refine call_one (S := predSpec figureP) rfl _ GaL.rfl ⟨n.pre, rfl, ?_⟩
           have k1 := zIa (figureP n.pre)
           rcases k1 with k1 | k1
           · simp -dsimp only [Vm.G, zA, zB, zC, zD, zE, zF, q109.1, k1]
             refine call_one (S := predSpec figureP) rfl _ GaL.rfl ⟨n.enc, rfl, ?_⟩
             have k2 := zIa (figureP n.enc)
             rcases k2 with k2 | k2
             · simp -dsimp only [Vm.G, zA, zB, zC, zD, zE, zF, q109.1, k2]
               refine call_one (S := predSpec figureP) rfl _ GaL.rfl ⟨n.exp, rfl, ?_⟩
               have k3 := zIa (figureP n.exp)
               rcases k3 with k3 | k3
               · simp -dsimp only [Vm.G, zA, zB, zC, zD, zE, zF, q109.1, k3]
                 refine call_one (S := predSpec figureP) rfl _ GaL.rfl ⟨(addC c n).pre, rfl, ?_⟩
                 have k4 := zIa (figureP (addC c n).pre)
                 rcases k4 with k4 | k4
                 · simp -dsimp only [Vm.G, zA, zB, zC, zD, zE, zF, q109.1, k4]
                   refine call_one (S := predSpec figureP) rfl _ GaL.rfl ⟨(addC c n).enc, rfl, ?_⟩
                   have k5 := zIa (figureP (addC c n).enc)
                   rcases k5 with k5 | k5
                   · simp -dsimp only [Vm.G, zA, zB, zC, zD, zE, zF, q109.1, k5]
                     refine call_one (S := predSpec figureP) rfl _ GaL.rfl ⟨(addC c n).exp, rfl, ?_⟩
                     have k6 := zIa (figureP (addC c n).exp)
                     rcases k6 with k6 | k6
                     · simp -dsimp only [Vm.G, zA, zB, zC, zD, zE, zF, q109.1, k6]
                       have f1 : figs n = true := by simp only [figs, k1, k2, k3, Bool.and_self]
                       have f2 : figs (addC c n) = true := by simp only [figs, k4, k5, k6, Bool.and_self]
                       have hat : atOf c n = if (allowsOf n (chgSum c)).1 = false then (.zero, false, 11) else (addC c n, (allowsOf n (chgSum c)).2, 0) := by
                         unfold atOf
                         rw [if_neg (by rw [f1]; decide), if_neg (by rw [f2]; decide)]
                       rw [hat] at hp
                       clear hat
                       refine call_one (S := allowsSpec) rfl _ GaL.rfl ⟨n, chgSum c, rfl, ?_⟩
                       generalize allowsOf n (chgSum c) = q at hp ⊢
                       rcases q with ⟨qa, qb⟩
                       have h8 := zIa qa
                       rcases h8 with c8 | c8
                       · subst c8
                         have hp : chargeRun c (path.drop (i + 1)) (upd g (ndK (addC c n)) (some (ndV (addC c n)))) (w || qb) = chargeRun c path f false := hp
                         have han := addC_ok c n hn
                         have hnc : ndCells (addC c n) = [.v (.int .i64 n.year), .v (.int .i64 n.id), .v (.int .i64 n.parent), .v (.int .i64 n.fund), .v (.int .i64 n.obj), .v (.bool n.abs), .v (.int .i64 n.limit), .v (.int .i64 (IntKind.i64.wrap (n.pre + c.pre))), .v (.int .i64 (IntKind.i64.wrap (n.enc + c.enc))), .v (.int .i64 (IntKind.i64.wrap (n.exp + c.exp))), .v (.int .i64 n.lapsed), .v (.int .i64 n.carried)] := rfl
                         generalize addC c n = x at han hnc hp
                         simp -dsimp only [Vm.G, zA, zB, zC, zD, zE, zF, q109.1]
                         cases w
                         · simp -dsimp only [Vm.G, zA, zB, zC, zD, zE, zF, q109.1]
                           refine call_one (S := rtPutSpec) rfl _ GaL.rfl ⟨R, g, x, by rw [hnc], han, hR, by omega, fun h2 g1 g2 => ?_⟩
                           simp -dsimp only [Vm.G, zA, zB, zC, zD, zE, zF, q109.1]
                           refine kept_intro ⟨path.length - (i + 1), by omega, _, le_mk [(0, .ptr R.iv 0), (3, .v (.int .i64 c.pre)), (4, .v (.int .i64 c.enc)), (5, .v (.int .i64 c.exp)), (14, .own true 29 12 (path.map ndAv)), (15, .v (.bool qb)), (16, .v (.int .i64 (i + 1 : Nat)))] ?_, i + 1, _, qb, by omega, g1, by show g.n + 1 ≤ _; omega, hsm.trans g2, hp, rfl⟩
                           simp only [Vm.D, hw]
                           try simp -dsimp only [Vm.G, zA, zB, zC, zD, zE, zF, q109.1, hw]
                           repeat' first | exact .refl _ | exact .nil _ _ _ (by decide) | refine ⟨?_, ?_⟩
                         · simp -dsimp only [Vm.G, zA, zB, zC, zD, zE, zF, q109.1]
                           refine call_one (S := rtPutSpec) rfl _ GaL.rfl ⟨R, g, x, by rw [hnc], han, hR, by omega, fun h2 g1 g2 => ?_⟩
                           simp -dsimp only [Vm.G, zA, zB, zC, zD, zE, zF, q109.1]
                           refine kept_intro ⟨path.length - (i + 1), by omega, _, le_mk [(0, .ptr R.iv 0), (3, .v (.int .i64 c.pre)), (4, .v (.int .i64 c.enc)), (5, .v (.int .i64 c.exp)), (14, .own true 29 12 (path.map ndAv)), (15, .v (.bool true)), (16, .v (.int .i64 (i + 1 : Nat)))] ?_, i + 1, _, true, by omega, g1, by show g.n + 1 ≤ _; omega, hsm.trans g2, hp, rfl⟩
                           simp only [Vm.D, hw]
                           try simp -dsimp only [Vm.G, zA, zB, zC, zD, zE, zF, q109.1, hw]
                           repeat' first | exact .refl _ | exact .nil _ _ _ (by decide) | refine ⟨?_, ?_⟩
                       · subst c8
                         have hp : (g, false, (11 : Int)) = chargeRun c path f false := hp
                         rw [← hp] at hq
                         simp -dsimp only [Vm.G, zA, zB, zC, zD, zE, zF, q109.1]
                         exact hq h' hR hsm
                     · have h9 := at_nine (c := c) (n := n) (.inr (by simp only [figs, k6, zUa, zRa]))
                       have hp9 : (g, false, (9 : Int)) = chargeRun c path f false := by rw [← hp, h9]; rfl
                       rw [← hp9] at hq
                       simp -dsimp only [Vm.G, zA, zB, zC, zD, zE, zF, q109.1, k6]
                       exact hq h' hR hsm
                   · have h9 := at_nine (c := c) (n := n) (.inr (by simp only [figs, k5, zUa, zRa]))
                     have hp9 : (g, false, (9 : Int)) = chargeRun c path f false := by rw [← hp, h9]; rfl
                     rw [← hp9] at hq
                     simp -dsimp only [Vm.G, zA, zB, zC, zD, zE, zF, q109.1, k5]
                     exact hq h' hR hsm
                 · have h9 := at_nine (c := c) (n := n) (.inr (by simp only [figs, k4, zUa, zRa]))
                   have hp9 : (g, false, (9 : Int)) = chargeRun c path f false := by rw [← hp, h9]; rfl
                   rw [← hp9] at hq
                   simp -dsimp only [Vm.G, zA, zB, zC, zD, zE, zF, q109.1, k4]
                   exact hq h' hR hsm
               · have h9 := at_nine (c := c) (n := n) (.inl (by simp only [figs, k3, zUa, zRa]))
                 have hp9 : (g, false, (9 : Int)) = chargeRun c path f false := by rw [← hp, h9]; rfl
                 rw [← hp9] at hq
                 simp -dsimp only [Vm.G, zA, zB, zC, zD, zE, zF, q109.1, k3]
                 exact hq h' hR hsm
             · have h9 := at_nine (c := c) (n := n) (.inl (by simp only [figs, k2, zUa, zRa]))
               have hp9 : (g, false, (9 : Int)) = chargeRun c path f false := by rw [← hp, h9]; rfl
               rw [← hp9] at hq
               simp -dsimp only [Vm.G, zA, zB, zC, zD, zE, zF, q109.1, k2]
               exact hq h' hR hsm
           · have h9 := at_nine (c := c) (n := n) (.inl (by simp only [figs, k1, zUa, zRa]))
             have hp9 : (g, false, (9 : Int)) = chargeRun c path f false := by rw [← hp, h9]; rfl
             rw [← hp9] at hq
             simp -dsimp only [Vm.G, zA, zB, zC, zD, zE, zF, q109.1, k1]
             exact hq h' hR hsm
         · have hge : ¬ i < path.length := by have := of_decide_eq_false hcc; omega
           rw [List.drop_of_length_le (by omega)] at hp
           have hp : (g, w, (0 : Int)) = chargeRun c path f false := hp
           rw [← hp] at hq
           simp -dsimp only [Vm.G, zA, zB, zC, zD, zE, zF, q109.1]
           exact hq h' hR hsm
     · rw [c3] at hmin
       rw [if_pos (by
         cases hb : chgRight c
         · rfl
         · have := hcr.1 hb
           simp only [decide_eq_true this.1.1, decide_eq_true this.2.1.1, decide_eq_true this.2.2.1] at c3
           cases c3)] at hq
       simp -dsimp only [Vm.G, zA, zB, zC, zD, zE, zF, q109.1, hmax, hmin]
       exact hq h hR (.refl _ _)
   · rw [c2] at hmax
     rw [if_pos (by
       cases hb : chgRight c
       · rfl
       · have := hcr.1 hb
         simp only [decide_eq_true this.1.2, decide_eq_true this.2.1.2, decide_eq_true this.2.2.2] at c2
         cases c2)] at hq
     simp -dsimp only [Vm.G, zA, zB, zC, zD, zE, zF, q109.1, hmax]
     exact hq h hR (.refl _ _)
theorem does_rPreCheck : Does Tryz.prog 187 preCheckSpec := by
 refine dA (good_cons does_rAmt good_nil) Tryz.func187 rfl (by decide +kernel) ?_
 rintro args h Q ⟨l, hl, rfl, hq⟩
 refine ⟨by simp [Tryz.f187], ?_⟩
 unfold preCheck at hq
 simp -dsimp only [Vm.G, zA, zB, zC, zD, zE, zF, q187.1]
 have h1 := zIa (decide ((l.length : Int) < 1))
 rcases h1 with c1 | c1
 · have d1 := of_decide_eq_true c1
   rw [if_pos (.inl (by omega))] at hq
   simp -dsimp only [Vm.G, zA, zB, zC, zD, zE, zF, q187.1, c1]
   exact hq
 · have d1 := of_decide_eq_false c1
   simp -dsimp only [Vm.G, zA, zB, zC, zD, zE, zF, q187.1, c1]
   have h2 := zIa (decide ((l.length : Int) > 6))
   rcases h2 with c2 | c2
   · have d2 := of_decide_eq_true c2
     rw [if_pos (.inr (.inl (by omega)))] at hq
     simp -dsimp only [Vm.G, zA, zB, zC, zD, zE, zF, q187.1, c2]
     exact hq
   · have d2 := of_decide_eq_false c2
     simp -dsimp only [Vm.G, zA, zB, zC, zD, zE, zF, q187.1, c2]
     refine awp_loop (fun m s h' => ∃ i : Nat, i + m = l.length ∧ h' = h ∧ (∀ j (hj : j < l.length), j < i → wrongL l[j] = false) ∧ s = mk [(0, .sl 4 (l.map lnAv)), (3, .v (.int .i64 (i : Nat)))])
       l.length _ (le_mk _ ?_) ⟨0, by omega, rfl, fun _ _ hj => by omega, rfl⟩ ?_
     · simp only [Vm.D]
       try simp -dsimp only [Vm.G, zA, zB, zC, zD, zE, zF, q187.1]
       repeat' first | exact .refl _ | exact .nil _ _ _ (by decide) | refine ⟨?_, ?_⟩
     · rintro m s h' ⟨i, hi, rfl, hb, rfl⟩
       simp -dsimp only [Vm.G, zA, zB, zC, zD, zE, zF, q187.1]
       refine cond_intro (fun hcc => ?_) (fun hcc => ?_)
       · have hlt : i < l.length := by have := of_decide_eq_true hcc; omega
         have hw := hwN i (by omega)
         have hxe : ∃ x, l[i] = x := ⟨_, rfl⟩
         rcases hxe with ⟨x, hx⟩
         simp -dsimp only [Vm.G, zA, zB, zC, zD, zE, zF, q187.1]
         refine idx_map lnAv l i hlt ?_
         simp only [hx, lnAv, lnCells]
         simp -dsimp only [Vm.G, zA, zB, zC, zD, zE, zF, q187.1, AV.cells]
         refine call_one (S := predSpec rightA) rfl _ GaL.rfl ⟨x.amt, rfl, ?_⟩
         have h3 := zIa (rightA x.amt)
         rcases h3 with c3 | c3
         · have hwx : wrongL x = false := by unfold wrongL; rw [c3]; rfl
           simp -dsimp only [Vm.G, zA, zB, zC, zD, zE, zF, q187.1, c3]
           refine kept_intro ⟨l.length - (i + 1), by omega, _, le_mk [(0, .sl 4 (l.map lnAv)), (3, .v (.int .i64 (i + 1 : Nat)))] ?_, i + 1, by omega, rfl, fun j hj hj2 => ?_, rfl⟩
           · simp only [Vm.D, hw]
             try simp -dsimp only [Vm.G, zA, zB, zC, zD, zE, zF, q187.1, hw]
             repeat' first | exact .refl _ | exact .nil _ _ _ (by decide) | refine ⟨?_, ?_⟩
           · by_cases hji : j = i
             · subst hji; rw [hx]; exact hwx
             · exact hb j hj (by omega)
         · have hwx : wrongL x = true := by unfold wrongL; rw [c3]; rfl
           rw [if_pos (.inr (.inr (List.any_eq_true.2 ⟨x, hx ▸ zMa hlt, hwx⟩)))] at hq
           simp -dsimp only [Vm.G, zA, zB, zC, zD, zE, zF, q187.1, c3]
           exact hq
       · have hge : ¬ i < l.length := by have := of_decide_eq_false hcc; omega
         have hany : l.any wrongL = false := by
           cases ha : l.any wrongL
           · rfl
           · obtain ⟨x, hxm, hwx⟩ := List.any_eq_true.1 ha
             obtain ⟨j, hj, rfl⟩ := zPa hxm
             rw [hb j hj (by omega)] at hwx; cases hwx
         rw [if_neg (fun h => h.elim (fun h => by omega) fun h => h.elim (fun h => by omega) fun h => by rw [hany] at h; cases h)] at hq
         simp -dsimp only [Vm.G, zA, zB, zC, zD, zE, zF, q187.1]
         exact hq
def firstOf (f : Fun) (year : Int) (l : List Ln) : Int := if checkY f year ≠ 0 then checkY f year else preCheck l
def rFirstSpec : Vm.Spec := fun args h Q => ∃ (R : RId) (f : Fun) (year : Int) (l : List Ln), l.length ≤ 9223372036854775807 ∧ args = [.ptr R.iv 0, .v (.int .i64 year), .sl 4 (l.map lnAv)] ∧ isRef h R f ∧ f.n ≤ 536870912 ∧ Q (.v (.int .i64 (firstOf f year l))) h
theorem does_rFirst : Does Tryz.prog 115 rFirstSpec := by
 refine dA (good_cons does_rCheck (good_cons does_rPreCheck good_nil)) Tryz.func115 rfl (by decide +kernel) ?_
 rintro args h Q ⟨R, f, year, l, hl, rfl, hR, hfn, hq⟩
 refine ⟨by simp [Tryz.f115], ?_⟩
 unfold firstOf at hq
 simp -dsimp only [Vm.G, zA, zB, zC, zD, zE, zF, q115.1]
 refine call_one (S := rCheckSpec) rfl _ GaL.rfl ⟨R, f, year, rfl, hR, hfn, ?_⟩
 generalize checkY f year = e at hq ⊢
 simp -dsimp only [Vm.G, zA, zB, zC, zD, zE, zF, q115.1]
 have h1 := zIa (e != 0)
 rcases h1 with c1 | c1
 · rw [if_pos (by simpa using c1)] at hq
   simp -dsimp only [Vm.G, zA, zB, zC, zD, zE, zF, q115.1, c1]
   exact hq
 · rw [if_neg (by simpa using c1)] at hq
   simp -dsimp only [Vm.G, zA, zB, zC, zD, zE, zF, q115.1, c1]
   refine call_one (S := preCheckSpec) rfl _ GaL.rfl ⟨l, hl, rfl, ?_⟩
   simp -dsimp only [Vm.G, zA, zB, zC, zD, zE, zF, q115.1]
   exact hq
theorem does_rLines : Does Tryz.prog 116 linesSpec := by
 refine dA good_nil Tryz.func116 rfl (by decide +kernel) ?_
 rintro args h Q ⟨l, hl, rfl, hq⟩
 refine ⟨by simp [Tryz.f116], ?_⟩
 simp -dsimp only [Vm.G, zA, zB, zC, zD, zE, zF, q116.1]
 refine awp_loop (fun m s h' => ∃ i : Nat, i + m = l.length ∧ h' = h ∧ s = mk [(0, .sl 4 (l.map lnAv)), (3, .own true 48 4 ((ownL (l.take i)).map dlAv)), (4, .v (.int .i64 (i : Nat)))])
   l.length _ (le_mk _ ?_) ⟨0, by omega, rfl, rfl⟩ ?_
 · simp only [Vm.D]
   try simp -dsimp only [Vm.G, zA, zB, zC, zD, zE, zF, q116.1]
   repeat' first | exact .refl _ | exact .nil _ _ _ (by decide) | refine ⟨?_, ?_⟩
 · rintro m s h' ⟨i, hi, rfl, rfl⟩
   simp -dsimp only [Vm.G, zA, zB, zC, zD, zE, zF, q116.1]
   refine cond_intro (fun hcc => ?_) (fun hcc => ?_)
   · have hlt : i < l.length := by have := of_decide_eq_true hcc; omega
     have hw := hwN i (by omega)
     have est : ownL (l.take (i + 1)) = ownL (l.take i) ++ [⟨l[i].node, l[i].amt, 0, 0⟩] := by
       unfold ownL
       rw [List.take_succ_eq_append_getElem hlt, zJb]; rfl
     have hol : (ownL (l.take i)).length ≤ i := by unfold ownL; rw [zJa, List.length_take]; omega
     have hxe : ∃ x, l[i] = x := ⟨_, rfl⟩
     rcases hxe with ⟨x, hx⟩
     rw [hx] at est
     simp -dsimp only [Vm.G, zA, zB, zC, zD, zE, zF, q116.1]
     refine draw_cont [] (.take 0 (.take 1 (.take 2 (.take 3 (.take 4 (.take 5 (.take 6 (.take 7 (.take 8 (.take 9 (.take 10 (.alt 11 (.alt 12 (.alt 13 (.alt 14 (.done) .stop) .stop) .stop) .stop)))))))))))) (fun s h2 => h2 = h' ∧ s 0 = .sl 4 (l.map lnAv) ∧ s 3 = .own true 48 4 ((ownL (l.take (i + 1))).map dlAv) ∧ s 4 = .v (.int .i64 (i : Nat))) (by kernel_rfl) (by kernel_rfl) (by kernel_rfl) (by decide) ?_ ?_
     · simp -dsimp only [Vm.G, zA, zB, zC, zD, zE, zF, q116.1]
       refine idx_map lnAv l i hlt ?_
       simp only [hx, lnAv, lnCells]
       simp -dsimp only [Vm.G, zA, zB, zC, zD, zE, zF, q116.1, AV.cells]
       refine idx_map lnAv l i hlt ?_
       simp only [hx, lnAv, lnCells]
       simp -dsimp only [Vm.G, zA, zB, zC, zD, zE, zF, q116.1, AV.cells]
       refine bs_intro zr48 (by decide) (by decide) rfl rfl (by simp [solid, AV.cells]) ?_
       simp -dsimp only [Vm.G, zA, zB, zC, zD, zE, zF, q116.1]
       refine app_sl Tryz.underlying43 (by simp [AV.cells]) (by simp only [zJa, zOa, List.length_nil]; omega) ?_
       simp -dsimp only [Vm.G, zA, zB, zC, zD, zE, zF, q116.1]
       simp only [est, zJb, zTa, zKb, dlAv, dlCells]
       repeat' first | rfl | exact True.intro | refine And.intro ?_ ?_
     · rintro s h2 ⟨rfl, e0, e3, e4⟩
       simp -dsimp only [Vm.G, zA, zB, zC, zD, zE, zF, q116.1, e0, e3, e4]
       refine kept_intro ⟨l.length - (i + 1), by omega, _, le_mk [(0, .sl 4 (l.map lnAv)), (3, .own true 48 4 ((ownL (l.take (i + 1))).map dlAv)), (4, .v (.int .i64 (i + 1 : Nat)))] ?_, i + 1, by omega, rfl, rfl⟩
       simp only [Vm.D, hw, e0, e3, e4]
       try simp -dsimp only [Vm.G, zA, zB, zC, zD, zE, zF, q116.1, hw, e0, e3, e4]
       repeat' first | exact .refl _ | exact .nil _ _ _ (by decide) | refine ⟨?_, ?_⟩
   · have hge : ¬ i < l.length := by have := of_decide_eq_false hcc; omega
     simp -dsimp only [Vm.G, zA, zB, zC, zD, zE, zF, q116.1]
     rw [List.take_of_length_le (by omega)]
     exact hq
def mkR (p e x : Int) (d : Dl) : Chg := ⟨w64 (p * d.orig), w64 (e * d.orig), w64 (x * d.orig)⟩
def rChargeLSpec : Vm.Spec := fun args h Q => ∃ (R : RId) (f : Fun) (year : Int) (l : List Dl) (p e x : Int), l.length ≤ 1048576 ∧ args = [.ptr R.iv 0, .v (.int .i64 year), .sl 4 (l.map dlAv), .v (.int .i64 p), .v (.int .i64 e), .v (.int .i64 x)] ∧ isRef h R f ∧ f.n ≤ 268435456 ∧
 ∀ h', isRef h' R (chargeG (mkR p e x) year l f false).1 → Same h h' (rFoot R) → Q (.tup [.v (.bool (chargeG (mkR p e x) year l f false).2.1), .v (.int .i64 (chargeG (mkR p e x) year l f false).2.2)]) h'
attribute [local irreducible] chargeOf chargeG docsPut
theorem does_rChargeL : Does Tryz.prog 117 rChargeLSpec := by
 refine dA (good_cons does_rCharge good_nil) Tryz.func117 rfl (by decide +kernel) ?_
 rintro args h Q ⟨R, f, year, l, p, e, x, hl, rfl, hR, hfn, hq⟩
 refine ⟨by simp [Tryz.f117], ?_⟩
 simp -dsimp only [Vm.G, zA, zB, zC, zD, zE, zF, q117.1]
 refine awp_loop (fun m s h' => ∃ (i : Nat) (g : Fun) (w : Bool), i + m = l.length ∧ isRef h' R g ∧ g.n ≤ f.n + 8 * i ∧ Same h h' (rFoot R) ∧ chargeG (mkR p e x) year (l.drop i) g w = chargeG (mkR p e x) year l f false ∧ s = mk [(0, .ptr R.iv 0), (1, .v (.int .i64 year)), (2, .sl 4 (l.map dlAv)), (3, .v (.int .i64 p)), (4, .v (.int .i64 e)), (5, .v (.int .i64 x)), (14, .v (.bool w)), (15, .v (.int .i64 (i : Nat)))])
   l.length _ (le_mk _ ?_) ⟨0, f, false, by omega, hR, by omega, .refl _ _, rfl, rfl⟩ ?_
 · simp only [Vm.D]
   try simp -dsimp only [Vm.G, zA, zB, zC, zD, zE, zF, q117.1]
   repeat' first | exact .refl _ | exact .nil _ _ _ (by decide) | refine ⟨?_, ?_⟩
 · clear hR
   rintro m s h' ⟨i, g, w, hi, hR, hgn, hsm, hp, rfl⟩
   simp -dsimp only [Vm.G, zA, zB, zC, zD, zE, zF, q117.1]
   refine cond_intro (fun hcc => ?_) (fun hcc => ?_)
   · have hlt : i < l.length := by have := of_decide_eq_true hcc; omega
     have hw := hwN i (by omega)
     rw [zIb hlt] at hp
     have hxe : ∃ y, l[i] = y := ⟨_, rfl⟩
     rcases hxe with ⟨y, hy⟩
     rw [hy] at hp
     have hcn := chargeOf_n g year y.node (mkR p e x y)
     simp -dsimp only [Vm.G, zA, zB, zC, zD, zE, zF, q117.1]
     refine idx_map dlAv l i hlt ?_
     simp only [hy, dlAv, dlCells]
     simp -dsimp only [Vm.G, zA, zB, zC, zD, zE, zF, q117.1, AV.cells]
     refine idx_map dlAv l i hlt ?_
     simp only [hy, dlAv, dlCells]
     simp -dsimp only [Vm.G, zA, zB, zC, zD, zE, zF, q117.1, AV.cells]
     refine call_one (S := rChargeSpec) rfl _ GaL.rfl ⟨R, g, year, y.node, mkR p e x y, rfl, hR, by omega, fun h2 g1 g2 => ?_⟩
     rw [chargeG_cons] at hp
     generalize chargeOf g year y.node (mkR p e x y) = q at hp g1 hcn ⊢
     rcases q with ⟨qf, qw, qe⟩
     simp only at hp g1 hcn ⊢
     simp -dsimp only [Vm.G, zA, zB, zC, zD, zE, zF, q117.1]
     have h1 := zIa (qe != 0)
     rcases h1 with c1 | c1
     · have d1 : qe ≠ 0 := by simpa using c1
       rw [if_pos d1] at hp
       rw [← hp] at hq
       simp -dsimp only [Vm.G, zA, zB, zC, zD, zE, zF, q117.1, c1]
       exact hq h2 g1 (hsm.trans g2)
     · have d1 : ¬ qe ≠ 0 := by simpa using c1
       rw [if_neg d1] at hp
       simp -dsimp only [Vm.G, zA, zB, zC, zD, zE, zF, q117.1, c1]
       cases w
       · simp -dsimp only [Vm.G, zA, zB, zC, zD, zE, zF, q117.1]
         refine kept_intro ⟨l.length - (i + 1), by omega, _, le_mk [(0, .ptr R.iv 0), (1, .v (.int .i64 year)), (2, .sl 4 (l.map dlAv)), (3, .v (.int .i64 p)), (4, .v (.int .i64 e)), (5, .v (.int .i64 x)), (14, .v (.bool qw)), (15, .v (.int .i64 (i + 1 : Nat)))] ?_, i + 1, qf, qw, by omega, g1, by omega, hsm.trans g2, by simpa using hp, rfl⟩
         simp only [Vm.D, hw]
         try simp -dsimp only [Vm.G, zA, zB, zC, zD, zE, zF, q117.1, hw]
         repeat' first | exact .refl _ | exact .nil _ _ _ (by decide) | refine ⟨?_, ?_⟩
       · simp -dsimp only [Vm.G, zA, zB, zC, zD, zE, zF, q117.1]
         refine kept_intro ⟨l.length - (i + 1), by omega, _, le_mk [(0, .ptr R.iv 0), (1, .v (.int .i64 year)), (2, .sl 4 (l.map dlAv)), (3, .v (.int .i64 p)), (4, .v (.int .i64 e)), (5, .v (.int .i64 x)), (14, .v (.bool true)), (15, .v (.int .i64 (i + 1 : Nat)))] ?_, i + 1, qf, true, by omega, g1, by omega, hsm.trans g2, by simpa using hp, rfl⟩
         simp only [Vm.D, hw]
         try simp -dsimp only [Vm.G, zA, zB, zC, zD, zE, zF, q117.1, hw]
         repeat' first | exact .refl _ | exact .nil _ _ _ (by decide) | refine ⟨?_, ?_⟩
   · have hge : ¬ i < l.length := by have := of_decide_eq_false hcc; omega
     rw [List.drop_of_length_le (by omega)] at hp
     have hp : (g, w, (0 : Int)) = chargeG (mkR p e x) year l f false := by rw [← hp]; simp only [chargeG]
     rw [← hp] at hq
     simp -dsimp only [Vm.G, zA, zB, zC, zD, zE, zF, q117.1]
     exact hq h' hR hsm
theorem w64_i64 {n : Int} (h : I64 n) : w64 n = n := wrap_i64 h.1 h.2
theorem mkR_pre {d : Dl} (h : d.ok) : mkR 1 0 0 d = ⟨d.orig, 0, 0⟩ := by
 unfold mkR
 rw [Int.one_mul, Int.zero_mul, w64_i64 h.2.1]
 rfl
def rPreNewSpec : Vm.Spec := fun args h Q => ∃ (R : RId) (f : Fun) (year : Int) (l : List Ln), I64 year ∧ l.length ≤ 1073741824 ∧ (∀ x ∈ l, x.ok) ∧ args = [.ptr R.iv 0, .v (.int .i64 year), .sl 4 (l.map lnAv)] ∧ isRef h R f ∧ f.n ≤ 134217728 ∧
 ∀ h', isRef h' R (preNew f year l).1 → Same h h' (rFoot R) → Q (.tup [.v (.int .i64 (preNew f year l).2.1), .v (.bool (preNew f year l).2.2.1), .v (.int .i64 (preNew f year l).2.2.2)]) h'
theorem docsPut_no {f : Fun} {d : Dc} {l : List Dl} (h : (docsPut f d l).2.2 ≠ 0) : (docsPut f d l).2.1 = 0 := by
 revert h
 unfold docsPut
 split
 · intro _; rfl
 · split
   · intro _; rfl
   · intro h; exact absurd rfl h
theorem does_rPreNew : Does Tryz.prog 43 rPreNewSpec := by
 refine dA (good_cons does_rFirst (good_cons does_rLines (good_cons does_rChargeL (good_cons does_rDocsPut good_nil)))) Tryz.func43 rfl (by decide +kernel) ?_
 rintro args h Q ⟨R, f, year, l, hy, hl, hok, rfl, hR, hfn, hq⟩
 refine ⟨by simp [Tryz.f43], ?_⟩
 unfold preNew at hq
 simp -dsimp only [Vm.G, zA, zB, zC, zD, zE, zF, q43.1]
 refine call_one (S := rFirstSpec) rfl _ GaL.rfl ⟨R, f, year, l, by omega, rfl, hR, by omega, ?_⟩
 have hfo : firstOf f year l = if checkY f year ≠ 0 then checkY f year else preCheck l := rfl
 generalize firstOf f year l = e at hfo ⊢
 simp -dsimp only [Vm.G, zA, zB, zC, zD, zE, zF, q43.1]
 by_cases d1 : checkY f year ≠ 0
 · simp only [if_pos d1] at hq hfo
   have c1 : (e != 0) = true := by rw [hfo]; simpa using d1
   rw [← hfo] at hq
   simp -dsimp only [Vm.G, zA, zB, zC, zD, zE, zF, q43.1, c1]
   exact hq h hR (.refl _ _)
 · simp only [if_neg d1] at hq hfo
   by_cases d2 : preCheck l ≠ 0
   · simp only [if_pos d2] at hq
     have c1 : (e != 0) = true := by rw [hfo]; simpa using d2
     rw [← hfo] at hq
     simp -dsimp only [Vm.G, zA, zB, zC, zD, zE, zF, q43.1, c1]
     exact hq h hR (.refl _ _)
   · simp only [if_neg d2] at hq
     have c1 : (e != 0) = false := by rw [hfo]; simpa using d2
     have hl6 := preCheck_len d2
     have hol := ownL_length l
     have hook := ownL_ok hok
     have hG : chargeL year (ownL l) f false = chargeG (mkR 1 0 0) year (ownL l) f false := by
       rw [chargeL_G]
       exact chargeG_congr year _ _ _ fun x hx => (mkR_pre (hook x hx)).symm
     rw [hG] at hq
     have hcn := chargeG_n (mkR 1 0 0) year (ownL l) f false
     clear hG
     simp -dsimp only [Vm.G, zA, zB, zC, zD, zE, zF, q43.1, c1]
     refine call_one (S := linesSpec) rfl _ GaL.rfl ⟨l, hl, rfl, ?_⟩
     simp -dsimp only [Vm.G, zA, zB, zC, zD, zE, zF, q43.1]
     refine call_one (S := rChargeLSpec) rfl _ GaL.rfl ⟨R, f, year, ownL l, 1, 0, 0, by omega, rfl, hR, by omega, fun h1 g1 g2 => ?_⟩
     generalize chargeG (mkR 1 0 0) year (ownL l) f false = q at hq g1 hcn ⊢
     rcases q with ⟨qf, qw, qe⟩
     simp only at hq g1 hcn ⊢
     simp -dsimp only [Vm.G, zA, zB, zC, zD, zE, zF, q43.1]
     have h3 := zIa (qe != 0)
     rcases h3 with c3 | c3
     · have d3 : qe ≠ 0 := by simpa using c3
       simp only [if_pos d3] at hq
       simp -dsimp only [Vm.G, zA, zB, zC, zD, zE, zF, q43.1, c3]
       exact hq h1 g1 g2
     · have d3 : ¬ qe ≠ 0 := by simpa using c3
       simp only [if_neg d3] at hq
       have z0 : I64 0 := by unfold I64; omega
       have z1 : I64 1 := by unfold I64; omega
       simp -dsimp only [Vm.G, zA, zB, zC, zD, zE, zF, q43.1, c3]
       refine call_one (S := rDocsPutSpec) rfl _ GaL.rfl ⟨R, qf, ⟨0, 1, year, 0, 0⟩, ownL l, ⟨z0, z1, hy, z0, z0⟩, hook, rfl, g1, by omega, fun h2 g3 g4 => ?_⟩
       have hno := docsPut_no (f := qf) (d := ⟨0, 1, year, 0, 0⟩) (l := ownL l)
       generalize docsPut qf ⟨0, 1, year, 0, 0⟩ (ownL l) = r at hq g3 hno ⊢
       rcases r with ⟨rf, ri, re⟩
       simp only at hq g3 hno ⊢
       have hq' := hq h2 g3 (g2.trans g4)
       simp -dsimp only [Vm.G, zA, zB, zC, zD, zE, zF, q43.1]
       have h4 := zIa (re != 0)
       rcases h4 with c4 | c4
       · have d4 : re ≠ 0 := by simpa using c4
         have e4 : (re == 0) = false := by simpa using d4
         rw [hno d4, e4, zUa] at hq'
         simp -dsimp only [Vm.G, zA, zB, zC, zD, zE, zF, q43.1, c4]
         exact hq'
       · have d4 : re = 0 := by simpa using c4
         subst d4
         rw [beq_self_eq_true, Bool.and_true] at hq'
         simp -dsimp only [Vm.G, zA, zB, zC, zD, zE, zF, q43.1, c4]
         exact hq'
end Go.Proofs.Lx
namespace Go.Proofs.Lx
open Go.Vm
attribute [local irreducible] awpArr awpBin awpMake awpAppend awpCvX awpStrOf awpBinX awpSlice awpBS awpStore awpAlloc awpCopy awpIndex awpDraw awpIdxX awpFa awpField awpLookup awpUpdate awpDelete awpClear awpRange awpNext awpEntry awpBuild awpClearS awpIdxL awpTree appB awpIdxO eltA treeA
theorem does_rObj16 : Does Tryz.prog 79 (predSpec objP) := by
 refine dA good_nil Tryz.func79 rfl (by decide +kernel) ?_
 rintro args h Q ⟨n, rfl, hq⟩
 refine ⟨by simp [Tryz.f79], ?_⟩
 unfold objP at hq
 have h0 := zIa (decide (1000 ≤ n))
 rcases h0 with c | c
 · have c2 : decide (n ≥ 1000) = true := c
   rw [c, Bool.true_and] at hq
   simp -dsimp only [Vm.G, zA, zB, zC, zD, zE, zF, q79.1, c2]
   exact hq
 · have c2 : decide (n ≥ 1000) = false := c
   rw [c, zRa] at hq
   simp -dsimp only [Vm.G, zA, zB, zC, zD, zE, zF, q79.1, c2]
   exact hq
theorem does_rClass : Does Tryz.prog 94 classSpec := by
 refine dA (good_cons does_rObj16 good_nil) Tryz.func94 rfl (by decide +kernel) ?_
 rintro args h Q ⟨n, rfl, hq⟩
 refine ⟨by simp [Tryz.f94], ?_⟩
 unfold classOf at hq
 simp -dsimp only [Vm.G, zA, zB, zC, zD, zE, zF, q94.1]
 refine call_one (S := predSpec objP) rfl _ GaL.rfl ⟨n, rfl, ?_⟩
 have h0 := zIa (objP n)
 rcases h0 with c | c
 · have hr : 1000 ≤ n ∧ n ≤ 5999 := by unfold objP at c; simpa using c
   have hw : IntKind.i64.wrap (n.tdiv 1000) = n.tdiv 1000 := by
     have : n.tdiv 1000 = n / 1000 := Int.tdiv_eq_ediv_of_nonneg (by omega)
     rw [this]
     exact wrap_i64 (by omega) (by omega)
   rw [if_pos c] at hq
   simp -dsimp only [Vm.G, zA, zB, zC, zD, zE, zF, q94.1, c]
   refine quo_intro (by decide) ?_
   simp -dsimp only [Vm.G, zA, zB, zC, zD, zE, zF, q94.1, hw]
   exact hq
 · rw [c] at hq
   simp only [Bool.false_eq_true, if_false] at hq
   simp -dsimp only [Vm.G, zA, zB, zC, zD, zE, zF, q94.1, c]
   exact hq
def rShLimitSpec : Vm.Spec := fun args h Q => ∃ (R : RId) (f : Fun) (n : Nd) (to : Int), n.ok ∧ args = [.ptr R.iv 0, .agg (ndCells n), .v (.int .i64 to)] ∧ isRef h R f ∧ f.n ≤ 536870912 ∧
 ∀ h', isRef h' R (limitF f n to (underF f n.year n.id)).1 → Same h h' (rFoot R) → Q (.tup [.v (.bool (limitF f n to (underF f n.year n.id)).2.1), .v (.int .i64 (limitF f n to (underF f n.year n.id)).2.2)]) h'
theorem does_rShLimit : Does Tryz.prog 101 rShLimitSpec := by
 refine dA (good_cons does_rtUsed (good_cons does_rtKids (good_cons does_rtGiven (good_cons does_rtPut good_nil)))) Tryz.func101 rfl (by decide +kernel) ?_
 rintro args h Q ⟨R, f, n, to, hok, rfl, hR, hn, hq⟩
 refine ⟨by simp [Tryz.f101], ?_⟩
 unfold limitF at hq
 simp only [ndCells]
 by_cases h1 : to < 0
 · have c1 : decide (to < 0) = true := decide_eq_true h1
   rw [if_pos (.inl h1)] at hq
   simp -dsimp only [Vm.G, zA, zB, zC, zD, zE, zF, q101.1, c1]
   exact hq h hR (.refl _ _)
 · have c1 : decide (to < 0) = false := decide_eq_false h1
   by_cases h2 : to > 1152921504606846976
   · have c2 : decide (to > 1152921504606846976) = true := decide_eq_true h2
     rw [if_pos (.inr h2)] at hq
     simp -dsimp only [Vm.G, zA, zB, zC, zD, zE, zF, q101.1, c1, c2]
     exact hq h hR (.refl _ _)
   · have c2 : decide (to > 1152921504606846976) = false := decide_eq_false h2
     rw [if_neg (by omega)] at hq
     simp -dsimp only [Vm.G, zA, zB, zC, zD, zE, zF, q101.1, c1, c2]
     refine call_one (S := usedSpec) rfl _ GaL.rfl ⟨n, rfl, ?_⟩
     simp -dsimp only [Vm.G, zA, zB, zC, zD, zE, zF, q101.1]
     refine call_one (S := rtKidsSpec) rfl _ GaL.rfl ⟨R, f, n.year, n.id, rfl, hR, hn, fun l hsc hln => ?_⟩
     have hu := underF_eq hsc n.id
     have hkl : (kidsN n.year n.id l).length ≤ l.length := Nat.le_trans (List.length_filter_le ..) (List.length_filterMap_le ..)
     simp -dsimp only [Vm.G, zA, zB, zC, zD, zE, zF, q101.1]
     refine call_one (S := givenSpec) rfl _ GaL.rfl ⟨kidsN n.year n.id l, by omega, rfl, ?_⟩
     rw [← hu]
     clear hu hkl hsc hln
     generalize underF f n.year n.id = g at hq ⊢
     by_cases h4 : g > to
     · have c4 : decide (g > to) = true := decide_eq_true h4
       rw [if_pos (.inl h4)] at hq
       simp -dsimp only [Vm.G, zA, zB, zC, zD, zE, zF, q101.1, c4]
       exact hq h hR (.refl _ _)
     · have c4 : decide (g > to) = false := decide_eq_false h4
       have hbe : ∃ b, decide (usedOf n > to) = b := ⟨_, rfl⟩
       rcases hbe with ⟨b, hb⟩
       have hae : ∃ a, n.abs = a := ⟨_, rfl⟩
       rcases hae with ⟨a, ha⟩
       have hput := limit_ok (to := to) hok (by omega)
       rw [hb] at hq
       cases a
       · rw [if_neg (by rw [ha]; rintro (h | ⟨h, -⟩); exact h4 h; cases h)] at hq
         simp -dsimp only [Vm.G, zA, zB, zC, zD, zE, zF, q101.1, c4, ha, hb]
         refine call_one (S := rtPutSpec) rfl _ GaL.rfl ⟨R, f, { n with limit := to }, by simp only [ndCells, ha], hput, hR, hn, fun h5 hR5 hs5 => ?_⟩
         simp -dsimp only [Vm.G, zA, zB, zC, zD, zE, zF, q101.1]
         exact hq h5 hR5 hs5
       · cases b
         · have h6 : ¬ usedOf n > to := of_decide_eq_false hb
           rw [if_neg (by rintro (h | ⟨-, h⟩); exact h4 h; exact h6 h)] at hq
           simp -dsimp only [Vm.G, zA, zB, zC, zD, zE, zF, q101.1, c4, ha, hb]
           refine call_one (S := rtPutSpec) rfl _ GaL.rfl ⟨R, f, { n with limit := to }, by simp only [ndCells, ha], hput, hR, hn, fun h5 hR5 hs5 => ?_⟩
           simp -dsimp only [Vm.G, zA, zB, zC, zD, zE, zF, q101.1]
           exact hq h5 hR5 hs5
         · have h6 : usedOf n > to := of_decide_eq_true hb
           rw [if_pos (.inr ⟨ha, h6⟩)] at hq
           simp -dsimp only [Vm.G, zA, zB, zC, zD, zE, zF, q101.1, c4, ha, hb]
           exact hq h hR (.refl _ _)
def rShAmendSpec : Vm.Spec := fun args h Q => ∃ (R : RId) (f : Fun) (year id more : Int), I64 more ∧ args = [.ptr R.iv 0, .v (.int .i64 year), .v (.int .i64 id), .v (.int .i64 more)] ∧ isRef h R f ∧ f.n ≤ 536870912 ∧
 ∀ h', isRef h' R (shAmend f year id more).1 → Same h h' (rFoot R) → Q (.tup [.v (.bool (shAmend f year id more).2.1), .v (.int .i64 (shAmend f year id more).2.2)]) h'
theorem does_rShAmend : Does Tryz.prog 37 rShAmendSpec := by
 refine dA (good_cons does_rCheck (good_cons does_rtGet (good_cons does_rtKids (good_cons does_rtGiven (good_cons does_rShLimit good_nil))))) Tryz.func37 rfl (by decide +kernel) ?_
 rintro args h Q ⟨R, f, year, id, more, hmo, rfl, hR, hn, hq⟩
 refine ⟨by simp [Tryz.f37], ?_⟩
 unfold shAmend amendF at hq
 simp -dsimp only [Vm.G, zA, zB, zC, zD, zE, zF, q37.1]
 refine call_one (S := rCheckSpec) rfl _ GaL.rfl ⟨R, f, year, rfl, hR, hn, ?_⟩
 have h0 := zIa (checkY f year != 0)
 rcases h0 with c1 | c1
 · rw [if_pos (by simpa using c1)] at hq
   simp -dsimp only [Vm.G, zA, zB, zC, zD, zE, zF, q37.1, c1]
   exact hq h hR (.refl _ _)
 · rw [if_neg (by simpa using c1)] at hq
   have h0 := zIa (decide (more < -9007199254740992))
   rcases h0 with c3 | c3
   · rw [if_pos (.inr (of_decide_eq_true c3))] at hq
     simp -dsimp only [Vm.G, zA, zB, zC, zD, zE, zF, q37.1, c1, c3]
     exact hq h hR (.refl _ _)
   · have h0 := zIa (decide (more > 9007199254740992))
     rcases h0 with c2 | c2
     · rw [if_pos (.inl (of_decide_eq_true c2))] at hq
       simp -dsimp only [Vm.G, zA, zB, zC, zD, zE, zF, q37.1, c1, c2, c3]
       exact hq h hR (.refl _ _)
     · have d2 := of_decide_eq_false c2
       have d3 := of_decide_eq_false c3
       rw [if_neg (by omega)] at hq
       simp -dsimp only [Vm.G, zA, zB, zC, zD, zE, zF, q37.1, c1, c2, c3]
       refine call_one (S := rtGetSpec) rfl _ GaL.rfl ⟨R, f, year, id, rfl, hR, hn, fun n hm => ?_, fun hm => ?_⟩
       · rw [hm] at hq
         simp only at hq
         have hns := nodeAt_some hm
         rcases hns with ⟨hny, hni, -⟩
         simp only [ndCells]
         simp -dsimp only [Vm.G, zA, zB, zC, zD, zE, zF, q37.1]
         refine call_one (S := rtGetSpec) rfl _ GaL.rfl ⟨R, f, year, n.parent, rfl, hR, hn, fun up hu => ?_, fun hu => ?_⟩
         · rw [hu] at hq
           simp only at hq
           simp only [ndCells]
           simp -dsimp only [Vm.G, zA, zB, zC, zD, zE, zF, q37.1]
           refine draw_cont [11, 13] (.take 0 (.take 1 (.take 2 (.take 3 (.take 4 (.take 8 (.take 10 (.alt 5 (.alt 6 (.alt 7 (.take 9 (.alt 11 (.take 12 (.take 13 (.done))) .stop)) (.alt 11 (.alt 7 (.take 9 (.take 12 (.take 13 (.done)))) .stop) (.stop))) (.alt 11 (.alt 6 (.alt 7 (.take 9 (.take 12 (.take 13 (.done)))) .stop) .stop) (.stop))) (.alt 11 (.alt 5 (.alt 6 (.alt 7 (.take 9 (.take 12 (.take 13 (.done)))) .stop) .stop) .stop) (.stop)))))))))) (fun s h' => h' = h ∧ s 57 = .v (.bool (decide (w64 (underF f year n.parent + more) > up.limit))) ∧ s 0 = .ptr R.iv 0 ∧ s 3 = .v (.int .i64 more) ∧ s 11 = .eptr (ndCells n)) (by kernel_rfl) (by kernel_rfl) (by kernel_rfl) (by decide) ?_ ?_
           · clear hq
             simp only [ndCells]
             repeat' first
               | with_reducible exact True.intro
               | refine call_one (S := rtKidsSpec) rfl _ GaL.rfl ⟨R, f, year, n.parent, rfl, hR, hn, fun l hsc hln => ?_⟩
               | (have hu := underF_eq hsc n.parent
                  have hkl : (kidsN year n.parent l).length ≤ l.length := Nat.le_trans (List.length_filter_le ..) (List.length_filterMap_le ..)
                  refine call_one (S := givenSpec) rfl _ GaL.rfl ⟨kidsN year n.parent l, by omega, rfl, ?_⟩
                  rw [← hu])
               | simp -dsimp only [Vm.G, zA, zB, zC, zD, zE, zF, q37.1]
               | refine tree_alt ?_ ?_
               | repeat' first | rfl | exact True.intro | refine And.intro ?_ ?_
           · rintro s h' ⟨rfl, e57, e0, e3, e11⟩
             simp only [ndCells] at e11
             have h0 := zIa (decide (w64 (underF f year n.parent + more) > up.limit))
             rcases h0 with c4 | c4
             · rw [if_pos (of_decide_eq_true c4)] at hq
               rw [c4] at e57
               simp -dsimp only [Vm.G, zA, zB, zC, zD, zE, zF, q37.1, e57]
               exact hq h' hR (.refl _ _)
             · rw [if_neg (of_decide_eq_false c4)] at hq
               rw [c4] at e57
               simp -dsimp only [Vm.G, zA, zB, zC, zD, zE, zF, q37.1, e57, e0, e3, e11]
               refine call_one (S := rShLimitSpec) rfl _ GaL.rfl ⟨R, f, n, w64 (n.limit + more), nodeAt_ok hm, rfl, hR, hn, fun h5 hR5 hs5 => ?_⟩
               rw [hny, hni] at hR5 ⊢
               simp -dsimp only [Vm.G, zA, zB, zC, zD, zE, zF, q37.1, e57, e0]
               exact hq h5 hR5 hs5
         · rw [hu] at hq
           simp only at hq
           simp only [ndCells]
           simp -dsimp only [Vm.G, zA, zB, zC, zD, zE, zF, q37.1]
           refine draw_cont [11, 13] (.take 0 (.take 1 (.take 2 (.take 3 (.take 4 (.take 8 (.take 10 (.alt 5 (.alt 6 (.alt 7 (.take 9 (.alt 11 (.take 12 (.take 13 (.done))) .stop)) (.alt 11 (.alt 7 (.take 9 (.take 12 (.take 13 (.done)))) .stop) (.stop))) (.alt 11 (.alt 6 (.alt 7 (.take 9 (.take 12 (.take 13 (.done)))) .stop) .stop) (.stop))) (.alt 11 (.alt 5 (.alt 6 (.alt 7 (.take 9 (.take 12 (.take 13 (.done)))) .stop) .stop) .stop) (.stop)))))))))) (fun s h' => h' = h ∧ s 57 = .v (.bool false) ∧ s 0 = .ptr R.iv 0 ∧ s 3 = .v (.int .i64 more) ∧ s 11 = .eptr (ndCells n)) (by kernel_rfl) (by kernel_rfl) (by kernel_rfl) (by decide) ?_ ?_
           · clear hq
             simp only [ndCells]
             repeat' first
               | with_reducible exact True.intro
               | simp -dsimp only [Vm.G, zA, zB, zC, zD, zE, zF, q37.1]
               | refine tree_alt ?_ ?_
               | repeat' first | rfl | exact True.intro | refine And.intro ?_ ?_
           · rintro s h' ⟨rfl, e57, e0, e3, e11⟩
             simp only [ndCells] at e11
             simp -dsimp only [Vm.G, zA, zB, zC, zD, zE, zF, q37.1, e57, e0, e3, e11]
             refine call_one (S := rShLimitSpec) rfl _ GaL.rfl ⟨R, f, n, w64 (n.limit + more), nodeAt_ok hm, rfl, hR, hn, fun h5 hR5 hs5 => ?_⟩
             rw [hny, hni] at hR5 ⊢
             simp -dsimp only [Vm.G, zA, zB, zC, zD, zE, zF, q37.1, e57, e0]
             exact hq h5 hR5 hs5
       · rw [hm] at hq
         simp only at hq
         simp only [ndCells]
         simp -dsimp only [Vm.G, zA, zB, zC, zD, zE, zF, q37.1]
         exact hq h hR (.refl _ _)
def rShMoveSpec : Vm.Spec := fun args h Q => ∃ (R : RId) (f : Fun) (year frm to part : Int), args = [.ptr R.iv 0, .v (.int .i64 year), .v (.int .i64 frm), .v (.int .i64 to), .v (.int .i64 part)] ∧ isRef h R f ∧ f.n ≤ 536870900 ∧
 ∀ h', isRef h' R (shMove f year frm to part).1 → Same h h' (rFoot R) → Q (.tup [.v (.bool (shMove f year frm to part).2.1), .v (.int .i64 (shMove f year frm to part).2.2)]) h'
theorem does_rShMove : Does Tryz.prog 39 rShMoveSpec := by
 refine dA (good_cons does_rCheck (good_cons does_rAmt (good_cons does_rtGet (good_cons does_rShLimit good_nil)))) Tryz.func39 rfl (by decide +kernel) ?_
 rintro args h Q ⟨R, f, year, frm, to, part, rfl, hR, hn, hq⟩
 refine ⟨by simp [Tryz.f39], ?_⟩
 unfold shMove moveF at hq
 simp -dsimp only [Vm.G, zA, zB, zC, zD, zE, zF, q39.1]
 refine call_one (S := rCheckSpec) rfl _ GaL.rfl ⟨R, f, year, rfl, hR, by omega, ?_⟩
 have h0 := zIa (checkY f year != 0)
 rcases h0 with c1 | c1
 · rw [if_pos (by simpa using c1)] at hq
   simp -dsimp only [Vm.G, zA, zB, zC, zD, zE, zF, q39.1, c1]
   exact hq h hR (.refl _ _)
 · rw [if_neg (by simpa using c1)] at hq
   simp -dsimp only [Vm.G, zA, zB, zC, zD, zE, zF, q39.1, c1]
   refine call_one (S := predSpec rightA) rfl _ GaL.rfl ⟨part, rfl, ?_⟩
   have h0 := zIa (rightA part)
   rcases h0 with c2 | c2
   · have h0 := zIa (frm == to)
     rcases h0 with c3 | c3
     · rw [if_pos (.inr (by simpa using c3))] at hq
       simp -dsimp only [Vm.G, zA, zB, zC, zD, zE, zF, q39.1, c2, c3]
       exact hq h hR (.refl _ _)
     · rw [if_neg (by rintro (h | h); rw [c2] at h; cases h; rw [h] at c3; simp at c3)] at hq
       simp -dsimp only [Vm.G, zA, zB, zC, zD, zE, zF, q39.1, c2, c3]
       refine call_one (S := rtGetSpec) rfl _ GaL.rfl ⟨R, f, year, frm, rfl, hR, by omega, fun a ha => ?_, fun ha => ?_⟩
       · simp only [ndCells]
         simp -dsimp only [Vm.G, zA, zB, zC, zD, zE, zF, q39.1]
         refine call_one (S := rtGetSpec) rfl _ GaL.rfl ⟨R, f, year, to, rfl, hR, by omega, fun z hz => ?_, fun hz => ?_⟩
         · rw [ha, hz] at hq
           simp only at hq
           have hs1 := nodeAt_some ha
           rcases hs1 with ⟨hay, hai, -⟩
           have hs1 := nodeAt_some hz
           rcases hs1 with ⟨hzy, hzi, -⟩
           simp only [ndCells]
           have h0 := zIa (a.parent != z.parent)
           rcases h0 with c4 | c4
           · rw [if_pos (by simpa using c4)] at hq
             simp -dsimp only [Vm.G, zA, zB, zC, zD, zE, zF, q39.1, c4]
             exact hq h hR (.refl _ _)
           · rw [if_neg (by simpa using c4)] at hq
             simp -dsimp only [Vm.G, zA, zB, zC, zD, zE, zF, q39.1, c4]
             refine call_one (S := rShLimitSpec) rfl _ GaL.rfl ⟨R, f, a, w64 (a.limit - part), nodeAt_ok ha, rfl, hR, by omega, fun h5 hR5 hs5 => ?_⟩
             rw [hay, hai] at hR5 ⊢
             have hln := limit_n f a (w64 (a.limit - part)) (underF f year frm)
             generalize limitF f a (w64 (a.limit - part)) (underF f year frm) = q at hq hR5 hln ⊢
             rcases q with ⟨f1, one, qe⟩
             simp only at hq hR5 hln ⊢
             have h0 := zIa (qe != 0)
             rcases h0 with c5 | c5
             · rw [if_pos (by simpa using c5)] at hq
               simp -dsimp only [Vm.G, zA, zB, zC, zD, zE, zF, q39.1, c5]
               exact hq h5 hR5 hs5
             · rw [if_neg (by simpa using c5)] at hq
               simp -dsimp only [Vm.G, zA, zB, zC, zD, zE, zF, q39.1, c5]
               refine call_one (S := rShLimitSpec) rfl _ GaL.rfl ⟨R, f1, z, w64 (z.limit + part), nodeAt_ok hz, rfl, hR5, by omega, fun h6 hR6 hs6 => ?_⟩
               rw [hzy, hzi] at hR6 ⊢
               generalize limitF f1 z (w64 (z.limit + part)) (underF f1 year to) = q2 at hq hR6 ⊢
               rcases q2 with ⟨f2, two, qe2⟩
               simp only at hq hR6 ⊢
               have hq' := hq h6 hR6 (hs5.trans hs6)
               have h0 := zIa (qe2 != 0)
               rcases h0 with c6 | c6
               · have d6 : (qe2 == 0) = false := by simpa using c6
                 rw [d6] at hq'
                 simp -dsimp only [Vm.G, zA, zB, zC, zD, zE, zF, q39.1, c6]
                 exact hq'
               · have d6 : qe2 = 0 := by simpa using c6
                 subst d6
                 cases one
                 · simp -dsimp only [Vm.G, zA, zB, zC, zD, zE, zF, q39.1, c6]
                   exact hq'
                 · simp -dsimp only [Vm.G, zA, zB, zC, zD, zE, zF, q39.1, c6]
                   exact hq'
         · rw [ha, hz] at hq
           simp only at hq
           simp only [ndCells]
           simp -dsimp only [Vm.G, zA, zB, zC, zD, zE, zF, q39.1]
           exact hq h hR (.refl _ _)
       · rw [ha] at hq
         simp only at hq
         simp only [ndCells]
         simp -dsimp only [Vm.G, zA, zB, zC, zD, zE, zF, q39.1]
         refine call_one (S := rtGetSpec) rfl _ GaL.rfl ⟨R, f, year, to, rfl, hR, by omega, fun z hz => ?_, fun hz => ?_⟩
         · simp only [ndCells]
           simp -dsimp only [Vm.G, zA, zB, zC, zD, zE, zF, q39.1]
           exact hq h hR (.refl _ _)
         · simp only [ndCells]
           simp -dsimp only [Vm.G, zA, zB, zC, zD, zE, zF, q39.1]
           exact hq h hR (.refl _ _)
   · rw [if_pos (.inl c2)] at hq
     simp -dsimp only [Vm.G, zA, zB, zC, zD, zE, zF, q39.1, c2]
     exact hq h hR (.refl _ _)
def lessSpec : Vm.Spec := fun args h Q => ∃ kind part : Int, args = [.v (.int .i64 kind), .v (.int .i64 part)] ∧ Q (.tup [.v (.int .i64 (lessC kind part).pre), .v (.int .i64 (lessC kind part).enc)]) h
theorem does_less : Does Tryz.prog 104 lessSpec := by
 refine dA good_nil Tryz.func104 rfl (by decide +kernel) ?_
 rintro args h Q ⟨kind, part, rfl, hq⟩
 refine ⟨by simp [Tryz.f104], ?_⟩
 unfold lessC at hq
 have h0 := zIa (kind == 1)
 rcases h0 with c | c
 · rw [if_pos (by simpa using c)] at hq
   simp -dsimp only [Vm.G, zA, zB, zC, zD, zE, zF, q104.1, c]
   exact hq
 · rw [if_neg (by simpa using c)] at hq
   have h0 := zIa (kind == 2)
   rcases h0 with c2 | c2
   · rw [if_pos (by simpa using c2)] at hq
     simp -dsimp only [Vm.G, zA, zB, zC, zD, zE, zF, q104.1, c, c2]
     exact hq
   · rw [if_neg (by simpa using c2)] at hq
     simp -dsimp only [Vm.G, zA, zB, zC, zD, zE, zF, q104.1, c, c2]
     exact hq
theorem less_exp (kind part : Int) : (lessC kind part).exp = 0 := by
 unfold lessC
 split
 · rfl
 · split <;> rfl
def cancelSpec : Vm.Spec := fun args h Q => ∃ (V : VId) (f : Fun) (doc line part : Int), I64 doc ∧ I64 line ∧ args = [.ptr V.iv 0, .v (.int .i64 doc), .v (.int .i64 line), .v (.int .i64 part)] ∧ isView h V f ∧ f.n ≤ 536870900 ∧
 ∀ h', isView h' V (cancelF f doc line part).1 → Same h h' [V.ic] → Q (.v (.int .i64 (cancelF f doc line part).2)) h'
theorem does_cancel : Does Tryz.prog 40 cancelSpec := by
 refine dA (good_cons does_amtRight (good_cons does_docsGet (good_cons does_yCheck (good_cons does_docsOpen (good_cons does_less (good_cons does_charge (good_cons does_docsSet good_nil))))))) Tryz.func40 rfl (by decide +kernel) ?_
 rintro args h Q ⟨V, f, doc, line, part, hdo, hli, rfl, hV, hn, hq⟩
 refine ⟨by simp [Tryz.f40], ?_⟩
 unfold cancelF at hq
 simp -dsimp only [Vm.G, zA, zB, zC, zD, zE, zF, q40.1]
 refine call_one (S := predSpec rightA) rfl _ GaL.rfl ⟨part, rfl, ?_⟩
 have h0 := zIa (rightA part)
 rcases h0 with c1 | c1
 · rw [if_neg (by rw [c1]; decide)] at hq
   simp -dsimp only [Vm.G, zA, zB, zC, zD, zE, zF, q40.1, c1]
   refine call_one (S := docsGetSpec) rfl _ GaL.rfl ⟨V, f, doc, rfl, hV, fun d l hd hl6 hdl => ?_, fun hd => ?_⟩
   · rw [hd] at hq
     simp only at hq
     simp only [dcCells]
     have h0 := zIa (decide (line < 0))
     rcases h0 with c2 | c2
     · rw [if_pos (.inl (of_decide_eq_true c2))] at hq
       simp -dsimp only [Vm.G, zA, zB, zC, zD, zE, zF, q40.1, c2]
       exact hq h hV (.refl _ _)
     · have d2 := of_decide_eq_false c2
       have h0 := zIa (decide (line ≥ (l.length : Int)))
       rcases h0 with c3 | c3
       · rw [if_pos (.inr (of_decide_eq_true c3))] at hq
         simp -dsimp only [Vm.G, zA, zB, zC, zD, zE, zF, q40.1, c2, c3, zJa]
         exact hq h hV (.refl _ _)
       · have d3 := of_decide_eq_false c3
         rw [if_neg (by omega)] at hq
         simp -dsimp only [Vm.G, zA, zB, zC, zD, zE, zF, q40.1, c2, c3, zJa]
         refine call_one (S := yCheckSpec) rfl _ GaL.rfl ⟨V, f, d.year, rfl, hV, ?_⟩
         have h0 := zIa (checkY f d.year != 0)
         rcases h0 with c4 | c4
         · rw [if_pos (by simpa using c4)] at hq
           simp -dsimp only [Vm.G, zA, zB, zC, zD, zE, zF, q40.1, c4]
           exact hq h hV (.refl _ _)
         · rw [if_neg (by simpa using c4)] at hq
           have hie : ∃ i : Nat, line = i := ⟨line.toNat, by omega⟩
           rcases hie with ⟨i, hi⟩
           have hlt : i < l.length := by omega
           have hxe : ∃ x, l[i] = x := ⟨_, rfl⟩
           rcases hxe with ⟨x, hx⟩
           have hxo : x.ok := hx ▸ docAt_ok hd _ (zMa hlt)
           have hgd : l.getD line.toNat .zero = x := by rw [hi, zVa, List.getD_eq_getElem?_getD, zNa hlt, hx]; rfl
           have hgl : (l.map dlAv)[i]? = some (dlAv x) := by simp [hlt, hx]
           rw [hgd] at hq
           subst hi
           simp -dsimp only [Vm.G, zA, zB, zC, zD, zE, zF, q40.1, c4]
           refine idxO_intro (by omega) (by simp; omega) ?_
           simp -dsimp only [Vm.G, zA, zB, zC, zD, zE, zF, q40.1, zVa]
           refine eltA_intro hgl ?_
           simp only [dlAv, dlCells]
           simp -dsimp only [Vm.G, zA, zB, zC, zD, zE, zF, q40.1, AV.cells, zMb]
           have h0 := zIa (d.kind == 3)
           rcases h0 with c5 | c5
           · rw [if_pos (.inl (by simpa using c5))] at hq
             simp -dsimp only [Vm.G, zA, zB, zC, zD, zE, zF, q40.1, c5]
             exact hq h hV (.refl _ _)
           · simp -dsimp only [Vm.G, zA, zB, zC, zD, zE, zF, q40.1, c5]
             refine call_one (S := openDSpec) rfl _ GaL.rfl ⟨x, rfl, ?_⟩
             have h0 := zIa (decide (openD x < part))
             rcases h0 with c6 | c6
             · rw [if_pos (.inr (of_decide_eq_true c6))] at hq
               simp -dsimp only [Vm.G, zA, zB, zC, zD, zE, zF, q40.1, c6]
               exact hq h hV (.refl _ _)
             · rw [if_neg (by rintro (h | h); rw [h] at c5; simp at c5; exact of_decide_eq_false c6 h)] at hq
               simp -dsimp only [Vm.G, zA, zB, zC, zD, zE, zF, q40.1, c6]
               refine call_one (S := lessSpec) rfl _ GaL.rfl ⟨d.kind, part, rfl, ?_⟩
               have hle := less_exp d.kind part
               simp -dsimp only [Vm.G, zA, zB, zC, zD, zE, zF, q40.1]
               refine call_one (S := chargeSpec) rfl _ GaL.rfl ⟨V, f, d.year, x.node, lessC d.kind part, by rw [hle], hV, fun h5 hV5 hs5 => ?_⟩
               generalize chargeOf f d.year x.node (lessC d.kind part) = q at hq hV5 ⊢
               rcases q with ⟨f1, w, qe⟩
               simp only at hq hV5 ⊢
               have h0 := zIa (qe != 0)
               rcases h0 with c7 | c7
               · rw [if_pos (by simpa using c7)] at hq
                 simp -dsimp only [Vm.G, zA, zB, zC, zD, zE, zF, q40.1, c7]
                 exact hq h5 hV5 hs5
               · rw [if_neg (by simpa using c7)] at hq
                 simp -dsimp only [Vm.G, zA, zB, zC, zD, zE, zF, q40.1, c7]
                 refine call_one (S := docsSetSpec) rfl _ GaL.rfl ⟨V, f1, doc, i, { x with can := w64 (x.can + part) }, hdo, hli, ⟨hxo.1, hxo.2.1, hxo.2.2.1, w64_range _⟩, rfl, hV5, fun h6 hV6 hs6 => ?_⟩
                 simp -dsimp only [Vm.G, zA, zB, zC, zD, zE, zF, q40.1]
                 exact hq h6 hV6 (hs5.trans hs6)
   · rw [hd] at hq
     simp only at hq
     simp only [dcCells]
     simp -dsimp only [Vm.G, zA, zB, zC, zD, zE, zF, q40.1]
     exact hq h hV (.refl _ _)
 · rw [if_pos c1] at hq
   simp -dsimp only [Vm.G, zA, zB, zC, zD, zE, zF, q40.1, c1]
   exact hq h hV (.refl _ _)
def rCancelSpec : Vm.Spec := fun args h Q => ∃ (R : RId) (f : Fun) (doc line part : Int), I64 doc ∧ I64 line ∧ args = [.ptr R.iv 0, .v (.int .i64 doc), .v (.int .i64 line), .v (.int .i64 part)] ∧ isRef h R f ∧ f.n ≤ 536870900 ∧
 ∀ h', isRef h' R (cancelF f doc line part).1 → Same h h' (rFoot R) → Q (.v (.int .i64 (cancelF f doc line part).2)) h'
theorem does_rCancel : Does Tryz.prog 41 rCancelSpec := by
 refine dA (good_cons does_rAmt (good_cons does_rDocsGet (good_cons does_rCheck (good_cons does_rDocsOpen (good_cons does_rCharge (good_cons does_rDocsSet good_nil)))))) Tryz.func41 rfl (by decide +kernel) ?_
 rintro args h Q ⟨R, f, doc, line, part, hdo, hli, rfl, hR, hn, hq⟩
 refine ⟨by simp [Tryz.f41], ?_⟩
 unfold cancelF at hq
 simp -dsimp only [Vm.G, zA, zB, zC, zD, zE, zF, q41.1]
 refine call_one (S := predSpec rightA) rfl _ GaL.rfl ⟨part, rfl, ?_⟩
 have h0 := zIa (rightA part)
 rcases h0 with c1 | c1
 · rw [if_neg (by rw [c1]; decide)] at hq
   simp -dsimp only [Vm.G, zA, zB, zC, zD, zE, zF, q41.1, c1]
   refine call_one (S := rDocsGetSpec) rfl _ GaL.rfl ⟨R, f, doc, rfl, hR, by omega, fun d l hd hl6 hdl => ?_, fun hd => ?_⟩
   · rw [hd] at hq
     simp only at hq
     simp only [dcCells]
     have h0 := zIa (decide (line < 0))
     rcases h0 with c2 | c2
     · rw [if_pos (.inl (of_decide_eq_true c2))] at hq
       simp -dsimp only [Vm.G, zA, zB, zC, zD, zE, zF, q41.1, c2]
       exact hq h hR (.refl _ _)
     · have d2 := of_decide_eq_false c2
       have h0 := zIa (decide (line ≥ (l.length : Int)))
       rcases h0 with c3 | c3
       · rw [if_pos (.inr (of_decide_eq_true c3))] at hq
         simp -dsimp only [Vm.G, zA, zB, zC, zD, zE, zF, q41.1, c2, c3, zJa]
         exact hq h hR (.refl _ _)
       · have d3 := of_decide_eq_false c3
         rw [if_neg (by omega)] at hq
         simp -dsimp only [Vm.G, zA, zB, zC, zD, zE, zF, q41.1, c2, c3, zJa]
         refine call_one (S := rCheckSpec) rfl _ GaL.rfl ⟨R, f, d.year, rfl, hR, by omega, ?_⟩
         have h0 := zIa (checkY f d.year != 0)
         rcases h0 with c4 | c4
         · rw [if_pos (by simpa using c4)] at hq
           simp -dsimp only [Vm.G, zA, zB, zC, zD, zE, zF, q41.1, c4]
           exact hq h hR (.refl _ _)
         · rw [if_neg (by simpa using c4)] at hq
           have hie : ∃ i : Nat, line = i := ⟨line.toNat, by omega⟩
           rcases hie with ⟨i, hi⟩
           have hlt : i < l.length := by omega
           have hxe : ∃ x, l[i] = x := ⟨_, rfl⟩
           rcases hxe with ⟨x, hx⟩
           have hxo : x.ok := hx ▸ docAt_ok hd _ (zMa hlt)
           have hgd : l.getD line.toNat .zero = x := by rw [hi, zVa, List.getD_eq_getElem?_getD, zNa hlt, hx]; rfl
           have hgl : (l.map dlAv)[i]? = some (dlAv x) := by simp [hlt, hx]
           rw [hgd] at hq
           subst hi
           simp -dsimp only [Vm.G, zA, zB, zC, zD, zE, zF, q41.1, c4]
           refine idxO_intro (by omega) (by simp; omega) ?_
           simp -dsimp only [Vm.G, zA, zB, zC, zD, zE, zF, q41.1, zVa]
           refine eltA_intro hgl ?_
           simp only [dlAv, dlCells]
           simp -dsimp only [Vm.G, zA, zB, zC, zD, zE, zF, q41.1, AV.cells, zMb]
           have h0 := zIa (d.kind == 3)
           rcases h0 with c5 | c5
           · rw [if_pos (.inl (by simpa using c5))] at hq
             simp -dsimp only [Vm.G, zA, zB, zC, zD, zE, zF, q41.1, c5]
             exact hq h hR (.refl _ _)
           · simp -dsimp only [Vm.G, zA, zB, zC, zD, zE, zF, q41.1, c5]
             refine call_one (S := openDSpec) rfl _ GaL.rfl ⟨x, rfl, ?_⟩
             have h0 := zIa (decide (openD x < part))
             rcases h0 with c6 | c6
             · rw [if_pos (.inr (of_decide_eq_true c6))] at hq
               simp -dsimp only [Vm.G, zA, zB, zC, zD, zE, zF, q41.1, c6]
               exact hq h hR (.refl _ _)
             · rw [if_neg (by rintro (h | h); rw [h] at c5; simp at c5; exact of_decide_eq_false c6 h)] at hq
               have hne : ∀ z : Int, w64 (0 - z) = IntKind.i64.wrap (0 - z) := fun _ => rfl
               have h0 := zIa (d.kind == 1)
               rcases h0 with k1 | k1
               · have hl : lessC d.kind part = ⟨w64 (0 - part), 0, 0⟩ := by unfold lessC; rw [if_pos (by simpa using k1)]
                 simp -dsimp only [Vm.G, zA, zB, zC, zD, zE, zF, q41.1, c6, k1]
                 refine call_one (S := rChargeSpec) rfl _ GaL.rfl ⟨R, f, d.year, x.node, lessC d.kind part, by rw [hl], hR, hn, fun h5 hR5 hs5 => ?_⟩
                 have hcn := chargeOf_n f d.year x.node (lessC d.kind part)
                 generalize chargeOf f d.year x.node (lessC d.kind part) = q at hq hR5 hcn ⊢
                 rcases q with ⟨f1, w, qe⟩
                 simp only at hq hR5 hcn ⊢
                 have h0 := zIa (qe != 0)
                 rcases h0 with c7 | c7
                 · rw [if_pos (by simpa using c7)] at hq
                   simp -dsimp only [Vm.G, zA, zB, zC, zD, zE, zF, q41.1, c7]
                   exact hq h5 hR5 hs5
                 · rw [if_neg (by simpa using c7)] at hq
                   simp -dsimp only [Vm.G, zA, zB, zC, zD, zE, zF, q41.1, c7]
                   refine call_one (S := rDocsSetSpec) rfl _ GaL.rfl ⟨R, f1, doc, i, { x with can := w64 (x.can + part) }, hdo, hli, ⟨hxo.1, hxo.2.1, hxo.2.2.1, w64_range _⟩, rfl, hR5, by omega, fun h6 hR6 hs6 => ?_⟩
                   simp -dsimp only [Vm.G, zA, zB, zC, zD, zE, zF, q41.1]
                   exact hq h6 hR6 (hs5.trans hs6)
               · have h0 := zIa (d.kind == 2)
                 rcases h0 with k2 | k2
                 · have hl : lessC d.kind part = ⟨0, w64 (0 - part), 0⟩ := by unfold lessC; rw [if_neg (by simpa using k1), if_pos (by simpa using k2)]
                   simp -dsimp only [Vm.G, zA, zB, zC, zD, zE, zF, q41.1, c6, k1, k2]
                   refine call_one (S := rChargeSpec) rfl _ GaL.rfl ⟨R, f, d.year, x.node, lessC d.kind part, by rw [hl], hR, hn, fun h5 hR5 hs5 => ?_⟩
                   have hcn := chargeOf_n f d.year x.node (lessC d.kind part)
                   generalize chargeOf f d.year x.node (lessC d.kind part) = q at hq hR5 hcn ⊢
                   rcases q with ⟨f1, w, qe⟩
                   simp only at hq hR5 hcn ⊢
                   have h0 := zIa (qe != 0)
                   rcases h0 with c7 | c7
                   · rw [if_pos (by simpa using c7)] at hq
                     simp -dsimp only [Vm.G, zA, zB, zC, zD, zE, zF, q41.1, c7]
                     exact hq h5 hR5 hs5
                   · rw [if_neg (by simpa using c7)] at hq
                     simp -dsimp only [Vm.G, zA, zB, zC, zD, zE, zF, q41.1, c7]
                     refine call_one (S := rDocsSetSpec) rfl _ GaL.rfl ⟨R, f1, doc, i, { x with can := w64 (x.can + part) }, hdo, hli, ⟨hxo.1, hxo.2.1, hxo.2.2.1, w64_range _⟩, rfl, hR5, by omega, fun h6 hR6 hs6 => ?_⟩
                     simp -dsimp only [Vm.G, zA, zB, zC, zD, zE, zF, q41.1]
                     exact hq h6 hR6 (hs5.trans hs6)
                 · have hl : lessC d.kind part = ⟨0, 0, 0⟩ := by unfold lessC; rw [if_neg (by simpa using k1), if_neg (by simpa using k2)]
                   simp -dsimp only [Vm.G, zA, zB, zC, zD, zE, zF, q41.1, c6, k1, k2]
                   refine call_one (S := rChargeSpec) rfl _ GaL.rfl ⟨R, f, d.year, x.node, lessC d.kind part, by rw [hl], hR, hn, fun h5 hR5 hs5 => ?_⟩
                   have hcn := chargeOf_n f d.year x.node (lessC d.kind part)
                   generalize chargeOf f d.year x.node (lessC d.kind part) = q at hq hR5 hcn ⊢
                   rcases q with ⟨f1, w, qe⟩
                   simp only at hq hR5 hcn ⊢
                   have h0 := zIa (qe != 0)
                   rcases h0 with c7 | c7
                   · rw [if_pos (by simpa using c7)] at hq
                     simp -dsimp only [Vm.G, zA, zB, zC, zD, zE, zF, q41.1, c7]
                     exact hq h5 hR5 hs5
                   · rw [if_neg (by simpa using c7)] at hq
                     simp -dsimp only [Vm.G, zA, zB, zC, zD, zE, zF, q41.1, c7]
                     refine call_one (S := rDocsSetSpec) rfl _ GaL.rfl ⟨R, f1, doc, i, { x with can := w64 (x.can + part) }, hdo, hli, ⟨hxo.1, hxo.2.1, hxo.2.2.1, w64_range _⟩, rfl, hR5, by omega, fun h6 hR6 hs6 => ?_⟩
                     simp -dsimp only [Vm.G, zA, zB, zC, zD, zE, zF, q41.1]
                     exact hq h6 hR6 (hs5.trans hs6)
   · rw [hd] at hq
     simp only at hq
     simp only [dcCells]
     simp -dsimp only [Vm.G, zA, zB, zC, zD, zE, zF, q41.1]
     exact hq h hR (.refl _ _)
 · rw [if_pos c1] at hq
   simp -dsimp only [Vm.G, zA, zB, zC, zD, zE, zF, q41.1, c1]
   exact hq h hR (.refl _ _)
end Go.Proofs.Lx
