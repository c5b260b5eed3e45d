/- What the functions of the program do: their contracts. -/
import Derived.Test.YtneohggmipeknabGreatDoorV2
import Derived.Test.YtneohggmipeknabGreatDoorTFs
import Derived.Test.YtneohggmipeknabGreatDoorW2
open List renaming lookup → zA, length_map → zJa, getElem?_set_ne → zLa, take_of_length_le → zMa, not_mem_nil → zNa, drop_succ_cons → zOa, length_nil → zPa, map_append → zQa, getElem_mem → zRa, drop_zero → zSa, drop_of_length_le → zTa, length_take → zUa, length_cons → zVa, mem_cons → zWa, length_append → zXa, drop_eq_getElem_cons → zYa, map_cons → zIb, getElem?_set_self → zJb, map_nil → zKb
open Nat renaming reduceAdd → zB, reduceBEq → zC, reduceLeDiff → zF
open Int renaming reduceBNe → zD, reduceBEq → zE, toNat_natCast → zKa
open Bool renaming true_beq → zG, false_beq → zH, eq_false_or_eq_true → zIa, and_false → zLb
set_option maxRecDepth 20000
set_option maxHeartbeats 16000000
set_option linter.unusedSimpArgs false
set_option linter.unusedVariables false
namespace Go.Proofs.Lx
open Go.Vm
attribute [local irreducible] awpArr awpBin awpMake awpAppend awpCvX awpStrOf awpBinX awpSlice awpBS awpStore awpAlloc awpCopy awpIndex awpDraw awpIdxX awpFa awpField awpLookup awpUpdate awpDelete awpClear awpRange awpNext awpEntry awpBuild awpClearS awpIdxL awpTree appB awpIdxO eltA treeA
def rDelSpec : Vm.Spec := fun args h Q => ∃ (R : RId) (f : Fun) (k : List UInt8), args = [.ptr R.iv 0, .sl 1 (k.map encB)] ∧ isRef h R f ∧ f.n ≤ 536870912 ∧
 (f k ≠ none → ∀ h', isRef h' R (upd f k none) → Same h h' (rFoot R) → Q (.v (.bool true)) h') ∧ (f k = none → Q (.v (.bool false)) h)
theorem does_rDel : Does Tryz.prog 211 rDelSpec := by
 refine dA (good_cons does_tGet (good_cons does_tPut (good_cons does_tDel good_nil))) Tryz.func211 rfl (by decide +kernel) ?_
 rintro args h Q ⟨R, f, k, rfl, hR, hn, hq1, hq2⟩
 refine ⟨by simp [Tryz.f211], ?_⟩
 obtain ⟨lw, ln, lt, h1, h2, h3, h4, h5, h6, h7, h8⟩ := hR
 simp -dsimp only [Vm.G, zA, zB, zC, zD, zE, zF, q211.1, h1]
 refine call_one (S := tGetSpec) rfl _ GaL.rfl ⟨R.inn, ln, k, rfl, h3, by omega, fun p hp => by have := (h8 p hp).2; omega, fun v hv => ?_, fun hv => ?_⟩
 · rw [h6.find] at hv
   have hk32 : k.length ≤ 32 := (h8 _ ((h6.2 k v).2 hv)).1
   simp -dsimp only [Vm.G, zA, zB, zC, zD, zE, zF, q211.1, h1]
   refine call_one (S := tPutSpec) rfl _ (.cons (.refl _) (.cons (.refl _) (.cons (.nil 1) .nil))) ⟨R.it, lt, k, [], rfl, h4, by omega, by omega, by simp, ?_⟩
   have g1 : (h.set R.it (tabObj (tput k [] lt)))[R.iv]? = some (.cells [.ptr R.iw 0, .ptr R.inn 0, .ptr R.it 0]) := by rw [zLa (by exact fun e => h5.2.1 e.symm)]; exact h1
   have g3 : (h.set R.it (tabObj (tput k [] lt)))[R.inn]? = some (tabObj ln) := by rw [zLa (by exact fun e => h5.2.2.1 e.symm)]; exact h3
   have g2 : (h.set R.it (tabObj (tput k [] lt)))[R.iw]? = some (tabObj lw) := by rw [zLa (by exact fun e => h5.2.2.2.2 e.symm)]; exact h2
   have g4 : (h.set R.it (tabObj (tput k [] lt)))[R.it]? = some (tabObj (tput k [] lt)) := zJb (get_lt h4)
   have gs : Same h (h.set R.it (tabObj (tput k [] lt))) (rFoot R) := ⟨by simp, fun i hl hi => zLa (by simp [rFoot] at hi; exact fun e => hi.2 e.symm)⟩
   generalize h.set R.it (tabObj (tput k [] lt)) = h2' at g1 g2 g3 g4 gs ⊢
   simp -dsimp only [Vm.G, zA, zB, zC, zD, zE, zF, q211.1, g1]
   refine call_one (S := tDelSpec) rfl _ GaL.rfl ⟨R.inn, ln, k, rfl, g3, by omega, ?_⟩
   rw [tdel_len h6 k, hv]
   simp -dsimp only [Vm.G, zA, zB, zC, zD, zE, zF, q211.1]
   refine hq1 (by rw [hv]; exact fun e => by cases e) _ ⟨lw, tdel k ln, tput k [] lt, ?_, ?_, ?_, ?_, h5, h6.del k, ⟨?_, ?_⟩, fun p hp => ?_⟩ ?_
   · rw [zLa (by exact fun e => h5.1 e.symm)]; exact g1
   · rw [zLa (by exact fun e => h5.2.2.2.1 e.symm)]; exact g2
   · exact zJb (get_lt g3)
   · rw [zLa h5.2.2.1]; exact g4
   · have : (tdel k ln).length ≤ ln.length := List.length_filter_le ..
     show _ ≤ f.n + 1; omega
   · have := tput_length k [] lt; show _ ≤ f.n + 1; omega
   · exact h8 p (List.mem_filter.1 hp).1
   · exact ⟨by rw [List.length_set]; exact gs.1, fun i hl hi => by
       rw [zLa (by simp [rFoot] at hi; exact fun e => hi.1 e.symm)]; exact gs.2 i hl hi⟩
 · rw [h6.find] at hv
   simp -dsimp only [Vm.G, zA, zB, zC, zD, zE, zF, q211.1]
   exact hq2 hv
theorem does_rFits : Does Tryz.prog 273 (predSpec fitsP) := by
 refine dA good_nil Tryz.func273 rfl (by decide +kernel) ?_
 rintro args h Q ⟨n, rfl, hq⟩
 refine ⟨by simp [Tryz.f273], ?_⟩
 unfold fitsP at hq
 simp -dsimp only [Vm.G, zA, zB, zC, zD, zE, zF, q273.1]
 have h1 := zIa (decide (-4611686018427387904 ≤ n))
 rcases h1 with c1 | c1
 · rw [c1] at hq
   have c2 : decide (n ≥ -4611686018427387904) = true := c1
   simp -dsimp only [Vm.G, zA, zB, zC, zD, zE, zF, q273.1, c2]
   exact hq
 · rw [c1] at hq
   have c2 : decide (n ≥ -4611686018427387904) = false := c1
   simp -dsimp only [Vm.G, zA, zB, zC, zD, zE, zF, q273.1, c2]
   exact hq
theorem fits_rng {n : Int} : fitsP n = true ↔ -4611686018427387904 ≤ n ∧ n ≤ 4611686018427387904 := by simp [fitsP]
theorem fits_sum {a b : Int} (ha : fitsP a = true) (hb : fitsP b = true) : fitsP (w64 (a + b)) = true ↔ -4611686018427387904 ≤ a + b ∧ a + b ≤ 4611686018427387904 := by
 have a1 := fits_rng.1 ha
 have b1 := fits_rng.1 hb
 by_cases h : a + b = 9223372036854775808
 · rw [h]
   have : fitsP (w64 9223372036854775808) = false := by decide +kernel
   rw [this]
   constructor
   · intro h; cases h
   · intro h; omega
 · rw [w64_id (by omega) (by omega)]
   exact fits_rng
theorem addA_yes {a b : Int} (ha : fitsP a = true) (hb : fitsP b = true) (h : -4611686018427387904 ≤ a + b ∧ a + b ≤ 4611686018427387904) : addA a b = some (w64 (a + b)) := by
 unfold addA
 rw [if_pos (by rw [ha, hb, (fits_sum ha hb).2 h]; rfl)]
theorem addA_no {a b : Int} (ha : fitsP a = true) (hb : fitsP b = true) (h : ¬ (-4611686018427387904 ≤ a + b ∧ a + b ≤ 4611686018427387904)) : addA a b = none := by
 unfold addA
 have : fitsP (w64 (a + b)) = false := by
   cases hf : fitsP (w64 (a + b)) with
   | false => rfl
   | true => exact absurd ((fits_sum ha hb).1 hf) h
 rw [if_neg (by rw [ha, hb, this]; decide)]
theorem does_rAddA : Does Tryz.prog 209 addSpec := by
 refine dA (good_cons does_rFits good_nil) Tryz.func209 rfl (by decide +kernel) ?_
 rintro args h Q ⟨a, b, rfl, hq1, hq2⟩
 refine ⟨by simp [Tryz.f209], ?_⟩
 simp -dsimp only [Vm.G, zA, zB, zC, zD, zE, zF, q209.1]
 refine call_one (S := predSpec fitsP) rfl _ GaL.rfl ⟨a, rfl, ?_⟩
 have h1 := zIa (fitsP a)
 rcases h1 with c1 | c1
 · simp -dsimp only [Vm.G, zA, zB, zC, zD, zE, zF, q209.1, c1]
   refine call_one (S := predSpec fitsP) rfl _ GaL.rfl ⟨b, rfl, ?_⟩
   have h2 := zIa (fitsP b)
   rcases h2 with c2 | c2
   · have a1 := fits_rng.1 c1
     have b1 := fits_rng.1 c2
     by_cases p : a > 0
     · have c3 : decide (a > 0) = true := decide_eq_true p
       have c4 : decide (a < 0) = false := decide_eq_false (by omega)
       have w1 : IntKind.i64.wrap (4611686018427387904 - a) = 4611686018427387904 - a := wrap_i64 (by omega) (by omega)
       by_cases q : b > 4611686018427387904 - a
       · have c5 : decide (b > 4611686018427387904 - a) = true := decide_eq_true q
         simp -dsimp only [Vm.G, zA, zB, zC, zD, zE, zF, q209.1, c2, c3, c4, w1, c5]
         exact hq2 (addA_no c1 c2 (by omega))
       · have c5 : decide (b > 4611686018427387904 - a) = false := decide_eq_false q
         simp -dsimp only [Vm.G, zA, zB, zC, zD, zE, zF, q209.1, c2, c3, c4, w1, c5]
         exact hq1 _ (addA_yes c1 c2 (by omega))
     · have c3 : decide (a > 0) = false := decide_eq_false p
       by_cases r : a < 0
       · have c4 : decide (a < 0) = true := decide_eq_true r
         have w1 : IntKind.i64.wrap (-4611686018427387904 - a) = -4611686018427387904 - a := wrap_i64 (by omega) (by omega)
         by_cases q : b < -4611686018427387904 - a
         · have c5 : decide (b < -4611686018427387904 - a) = true := decide_eq_true q
           simp -dsimp only [Vm.G, zA, zB, zC, zD, zE, zF, q209.1, c2, c3, c4, w1, c5]
           exact hq2 (addA_no c1 c2 (by omega))
         · have c5 : decide (b < -4611686018427387904 - a) = false := decide_eq_false q
           simp -dsimp only [Vm.G, zA, zB, zC, zD, zE, zF, q209.1, c2, c3, c4, w1, c5]
           exact hq1 _ (addA_yes c1 c2 (by omega))
       · have c4 : decide (a < 0) = false := decide_eq_false r
         simp -dsimp only [Vm.G, zA, zB, zC, zD, zE, zF, q209.1, c2, c3, c4]
         exact hq1 _ (addA_yes c1 c2 (by omega))
   · simp -dsimp only [Vm.G, zA, zB, zC, zD, zE, zF, q209.1, c2]
     exact hq2 (by unfold addA; rw [if_neg (by rw [c1, c2]; simp)])
 · simp -dsimp only [Vm.G, zA, zB, zC, zD, zE, zF, q209.1, c1]
   exact hq2 (by unfold addA; rw [if_neg (by rw [c1]; simp)])
def rbGetSpec : Vm.Spec := fun args h Q => ∃ (R : RId) (f : Fun) (y a b : Int), args = [.ptr R.iv 0, .v (.int .i64 y), .v (.int .i64 a), .v (.int .i64 b)] ∧ isRef h R f ∧ f.n ≤ 536870912 ∧ Q (.v (.int .i64 (readOf f (balK y a b)))) h
theorem does_rbGet : Does Tryz.prog 210 rbGetSpec := by
 refine dA (good_cons does_rKey (good_cons does_rNum good_nil)) Tryz.func210 rfl (by decide +kernel) ?_
 rintro args h Q ⟨R, f, y, a, b, rfl, hR, hn, hq⟩
 refine ⟨by simp [Tryz.f210], ?_⟩
 simp -dsimp only [Vm.G, zA, zB, zC, zD, zE, zF, q210.1]
 refine bs_intro zr3 (by decide) (by decide) rfl rfl (by simp [solid, AV.cells]) ?_
 simp -dsimp only [Vm.G, zA, zB, zC, zD, zE, zF, q210.1]
 refine call_one (S := keySpec) rfl _ GaL.rfl ⟨66, [y, a, b], by simp, rfl, ?_⟩
 simp -dsimp only [Vm.G, zA, zB, zC, zD, zE, zF, q210.1]
 refine call_one (S := rNumSpec) rfl _ GaL.rfl ⟨R, f, balK y a b, rfl, hR, hn, fun c => ?_⟩
 simp -dsimp only [Vm.G, zA, zB, zC, zD, zE, zF, q210.1]
 exact hq
def rbAddSpec : Vm.Spec := fun args h Q => ∃ (R : RId) (f : Fun) (y : Int) (x : Ln), args = [.ptr R.iv 0, .v (.int .i64 y), lnAv x] ∧ isRef h R f ∧ f.n ≤ 536870912 ∧
 ∀ h', isRef h' R (balAdd f (balK y x.fund x.obj) x.amt).1 → Same h h' (rFoot R) → Q (.v (.int .i64 (balAdd f (balK y x.fund x.obj) x.amt).2)) h'
theorem does_rbAdd : Does Tryz.prog 163 rbAddSpec := by
 refine dA (good_cons does_rbGet (good_cons does_rAddA (good_cons does_rKey (good_cons does_rDel (good_cons does_rPack (good_cons does_rPut good_nil)))))) Tryz.func163 rfl (by decide +kernel) ?_
 rintro args h Q ⟨R, f, y, x, rfl, hR, hn, hq⟩
 refine ⟨by simp [Tryz.f163], ?_⟩
 have hkl := balK_length y x.fund x.obj
 unfold balAdd at hq
 simp only [lnAv, lnCells]
 have hA0 : (∃ n, addA (readOf f (balK y x.fund x.obj)) x.amt = some n) ∨ addA (readOf f (balK y x.fund x.obj)) x.amt = none := by
   cases addA (readOf f (balK y x.fund x.obj)) x.amt with
   | none => exact .inr rfl
   | some n => exact .inl ⟨n, rfl⟩
 rcases hA0 with ⟨n, hA⟩ | hA
 · rw [hA] at hq
   simp only at hq
   have hni := addA_i64 hA
   simp -dsimp only [Vm.G, zA, zB, zC, zD, zE, zF, q163.1]
   refine draw_cont [5] (.take 0 (.take 1 (.take 2 (.take 3 (.take 4 (.take 5 (.take 7 (.take 8 (.alt 6 (.alt 9 (.take 10 (.take 11 (.take 12 (.alt 13 (.alt 14 (.done) .stop) .stop)))) .stop) .stop))))))))) (fun s h2 => h2 = h ∧ s 7 = .v (.int .i64 n) ∧ s 8 = .v (.int .i64 0) ∧ s 0 = .ptr R.iv 0 ∧ s 1 = .v (.int .i64 y) ∧ s 5 = .eptr [.v (.int .i64 x.fund), .v (.int .i64 x.obj), .v (.int .i64 x.node), .v (.int .i64 x.amt)]) (by kernel_rfl) (by kernel_rfl) (by kernel_rfl) (by decide) ?_ ?_
   · clear hq
     repeat' first
       | with_reducible exact True.intro
       | (rw [hA] at hm; cases hm)
       | simp -dsimp only [Vm.G, zA, zB, zC, zD, zE, zF, q163.1, AV.cells]
       | refine call_one (S := rbGetSpec) rfl _ GaL.rfl ⟨R, f, y, x.fund, x.obj, rfl, hR, hn, ?_⟩
       | refine call_one (S := addSpec) rfl _ GaL.rfl ⟨readOf f (balK y x.fund x.obj), x.amt, rfl, fun m hm => ?_, fun hm => ?_⟩
       | refine tree_alt ?_ ?_
       | repeat' first | rfl | exact True.intro | refine And.intro ?_ ?_
   · rintro s h2 ⟨rfl, e7, e8, e0, e1, e5⟩
     simp -dsimp only [Vm.G, zA, zB, zC, zD, zE, zF, q163.1, e7, e8, e0, e1, e5, bne_self_eq_false]
     refine bs_intro zr3 (by decide) (by decide) rfl rfl (by simp [solid, AV.cells]) ?_
     simp -dsimp only [Vm.G, zA, zB, zC, zD, zE, zF, q163.1, e7, e8, e0, e1, e5]
     refine call_one (S := keySpec) rfl _ GaL.rfl ⟨66, [y, x.fund, x.obj], by simp, rfl, ?_⟩
     have ek : keyOf 66 [y, x.fund, x.obj] = balK y x.fund x.obj := rfl
     rw [ek]
     have h1 := zIa (n == 0)
     rcases h1 with c1 | c1
     · have d1 : n = 0 := by simpa using c1
       subst d1
       unfold balSet at hq
       rw [if_pos rfl] at hq
       simp -dsimp only [Vm.G, zA, zB, zC, zD, zE, zF, q163.1, e7, e8, e0, e1, e5]
       refine call_one (S := rDelSpec) rfl _ GaL.rfl ⟨R, f, balK y x.fund x.obj, rfl, hR, hn, fun hf h3 g1 g2 => ?_, fun hf => ?_⟩
       · simp -dsimp only [Vm.G, zA, zB, zC, zD, zE, zF, q163.1]
         exact hq h3 (by rw [if_neg hf]; exact g1) g2
       · simp -dsimp only [Vm.G, zA, zB, zC, zD, zE, zF, q163.1]
         exact hq h2 (by rw [if_pos hf]; exact hR) (.refl _ _)
     · have d1 : ¬ n = 0 := by simpa using c1
       unfold balSet at hq
       rw [if_neg d1] at hq
       simp -dsimp only [Vm.G, zA, zB, zC, zD, zE, zF, q163.1, e7, e8, e0, e1, e5, c1]
       refine bs_intro zr3 (by decide) (by decide) rfl rfl (by simp [solid, AV.cells]) ?_
       simp -dsimp only [Vm.G, zA, zB, zC, zD, zE, zF, q163.1, e7, e8, e0, e1, e5]
       refine call_one (S := packSpec) rfl _ GaL.rfl ⟨[n], by simp, by simpa using hni, rfl, ?_⟩
       simp only [packOf_one]
       simp -dsimp only [Vm.G, zA, zB, zC, zD, zE, zF, q163.1, e7, e8, e0, e1, e5]
       refine call_one (S := rPutSpec) rfl _ GaL.rfl ⟨R, f, balK y x.fund x.obj, be 8 n, rfl, hR, hn, fun _ h3 g1 g2 => ?_, fun hc => by rw [right8 n (by omega) (by omega)] at hc; cases hc⟩
       simp -dsimp only [Vm.G, zA, zB, zC, zD, zE, zF, q163.1]
       exact hq h3 g1 g2
 · rw [hA] at hq
   simp only at hq
   simp -dsimp only [Vm.G, zA, zB, zC, zD, zE, zF, q163.1]
   refine draw_cont [5] (.take 0 (.take 1 (.take 2 (.take 3 (.take 4 (.take 5 (.take 7 (.take 8 (.alt 6 (.alt 9 (.take 10 (.take 11 (.take 12 (.alt 13 (.alt 14 (.done) .stop) .stop)))) .stop) .stop))))))))) (fun s h2 => h2 = h ∧ s 8 = .v (.int .i64 9)) (by kernel_rfl) (by kernel_rfl) (by kernel_rfl) (by decide) ?_ ?_
   · clear hq
     repeat' first
       | with_reducible exact True.intro
       | (rw [hA] at hm; cases hm)
       | simp -dsimp only [Vm.G, zA, zB, zC, zD, zE, zF, q163.1, AV.cells]
       | refine call_one (S := rbGetSpec) rfl _ GaL.rfl ⟨R, f, y, x.fund, x.obj, rfl, hR, hn, ?_⟩
       | refine call_one (S := addSpec) rfl _ GaL.rfl ⟨readOf f (balK y x.fund x.obj), x.amt, rfl, fun m hm => ?_, fun hm => ?_⟩
       | refine tree_alt ?_ ?_
       | repeat' first | rfl | exact True.intro | refine And.intro ?_ ?_
   · rintro s h2 ⟨rfl, e8⟩
     simp -dsimp only [Vm.G, zA, zB, zC, zD, zE, zF, q163.1, e8]
     exact hq h2 hR (.refl _ _)
def rBalanceSpec : Vm.Spec := fun args h Q => ∃ l : List Ln, l.length ≤ 1048576 ∧ (∀ x ∈ l, x.ok) ∧ args = [.sl 4 (l.map lnAv)] ∧ ∀ r, IsFunds l r → Q (.own true 45 4 ((balanceL r).map lnAv)) h
theorem does_rBalance : Does Tryz.prog 165 rBalanceSpec := by
 refine dA (good_cons does_rFunds good_nil) Tryz.func165 rfl (by decide +kernel) ?_
 rintro args h Q ⟨l, hl, hok, rfl, hq⟩
 refine ⟨by simp [Tryz.f165], ?_⟩
 simp -dsimp only [Vm.G, zA, zB, zC, zD, zE, zF, q165.1]
 refine call_one (S := rFundsSpec) rfl _ GaL.rfl ⟨l, by omega, hok, rfl, fun r hr => ?_⟩
 have hrl := hr.len
 simp -dsimp only [Vm.G, zA, zB, zC, zD, zE, zF, q165.1]
 refine awp_loop (fun m s h' => ∃ i : Nat, i + m = r.length ∧ h' = h ∧ s = mk [(3, .own true 45 4 ((balanceL (r.take (i))).map lnAv)), (4, .own true 45 4 (r.map lnAv)), (5, .v (.int .i64 (i : Nat)))])
   r.length _ (le_mk _ ?_) ⟨0, by omega, rfl, rfl⟩ ?_
 · simp only [Vm.D]
   try simp -dsimp only [Vm.G, zA, zB, zC, zD, zE, zF, q165.1]
   repeat' first | exact .refl _ | exact .nil _ _ _ (by decide) | refine ⟨?_, ?_⟩
 · rintro m s h' ⟨i, hi, rfl, rfl⟩
   simp -dsimp only [Vm.G, zA, zB, zC, zD, zE, zF, q165.1]
   refine cond_intro (fun hcc => ?_) (fun hcc => ?_)
   · have hlt : i < r.length := by have := of_decide_eq_true hcc; omega
     have hw := hwN i (by omega)
     have htk := balance_take hlt
     have hbl := balance_len (r.take i)
     rw [zUa] at hbl
     have hgi : (r.map lnAv)[i]? = some (lnAv r[i]) := by simp [hlt]
     generalize r[i] = x at htk hgi
     simp -dsimp only [Vm.G, zA, zB, zC, zD, zE, zF, q165.1]
     refine idxO_intro (xs := r.map lnAv) (by omega) (by simp; omega) ?_
     simp -dsimp only [Vm.G, zA, zB, zC, zD, zE, zF, q165.1, zKa]
     refine eltA_intro (xs := r.map lnAv) hgi ?_
     simp only [lnAv, lnCells]
     by_cases h1 : x.amt > 0
     · have c1 : decide (x.amt > 0) = true := decide_eq_true h1
       have c2 : decide (x.amt < 0) = false := decide_eq_false (by omega)
       have ho : owedL x = [⟨x.fund, 2900, 0, w64 (0 - x.amt)⟩] := by unfold owedL; rw [if_pos h1]
       simp -dsimp only [Vm.G, zA, zB, zC, zD, zE, zF, q165.1, AV.cells, zSa, zOa, c1]
       refine draw_cont [] (.take 0 (.take 1 (.take 2 (.take 3 (.take 4 (.take 6 (.take 7 (.take 8 (.take 9 (.alt 5 (.alt 10 (.take 11 (.alt 12 (.alt 13 (.alt 14 (.alt 15 (.done) .stop) .stop) .stop) .stop)) .stop) (.alt 10 (.take 11 (.alt 5 (.alt 12 (.alt 13 (.alt 14 (.alt 15 (.done) .stop) .stop) .stop) .stop) .stop)) (.stop)))))))))))) (fun s h2 => h2 = h' ∧ s 3 = .own true 45 4 ((balanceL (r.take (i + 1))).map lnAv) ∧ s 4 = .own true 45 4 (r.map lnAv) ∧ s 5 = .v (.int .i64 (i : Nat))) (by kernel_rfl) (by kernel_rfl) (by kernel_rfl) (by decide) ?_ ?_
       · clear hq
         repeat' first
           | with_reducible exact True.intro
           | refine idxO_intro (xs := r.map lnAv) (by omega) (by simp; omega) ?_
           | refine eltA_intro (xs := r.map lnAv) hgi ?_
           | refine bs_intro zr45 (by decide) (by decide) rfl rfl (by simp [solid, AV.cells]) ?_
           | refine app_sl Tryz.underlying33 (by simp [AV.cells]) (by simp only [zJa, zVa, zPa]; omega) ?_
           | simp -dsimp only [Vm.G, zA, zB, zC, zD, zE, zF, q165.1, zKa, lnAv, lnCells, AV.cells, zSa, zOa, htk, ho, zQa, zIb, zKb]
           | refine tree_alt ?_ ?_
           | repeat' first | rfl | exact True.intro | refine And.intro ?_ ?_
       · rintro s h2 ⟨rfl, e3, e4, e5⟩
         simp -dsimp only [Vm.G, zA, zB, zC, zD, zE, zF, q165.1, e3, e4, e5]
         refine idxO_intro (xs := r.map lnAv) (by omega) (by simp; omega) ?_
         simp -dsimp only [Vm.G, zA, zB, zC, zD, zE, zF, q165.1, zKa, e3, e4, e5]
         refine eltA_intro (xs := r.map lnAv) hgi ?_
         simp only [lnAv, lnCells]
         simp -dsimp only [Vm.G, zA, zB, zC, zD, zE, zF, q165.1, AV.cells, zSa, zOa, e3, e4, e5, c2]
         refine kept_intro ⟨r.length - (i + 1), by omega, _, le_mk [(3, .own true 45 4 ((balanceL (r.take (i + 1))).map lnAv)), (4, .own true 45 4 (r.map lnAv)), (5, .v (.int .i64 (i + 1 : Nat)))] ?_, i + 1, by omega, rfl, rfl⟩
         simp only [Vm.D, hw, e3, e4, e5]
         try simp -dsimp only [Vm.G, zA, zB, zC, zD, zE, zF, q165.1, hw, e3, e4, e5]
         repeat' first | exact .refl _ | exact .nil _ _ _ (by decide) | refine ⟨?_, ?_⟩
     · have c1 : decide (x.amt > 0) = false := decide_eq_false h1
       simp -dsimp only [Vm.G, zA, zB, zC, zD, zE, zF, q165.1, AV.cells, zSa, zOa, c1]
       refine idxO_intro (xs := r.map lnAv) (by omega) (by simp; omega) ?_
       simp -dsimp only [Vm.G, zA, zB, zC, zD, zE, zF, q165.1, zKa]
       refine eltA_intro (xs := r.map lnAv) hgi ?_
       simp only [lnAv, lnCells]
       by_cases h2 : x.amt < 0
       · have c2 : decide (x.amt < 0) = true := decide_eq_true h2
         have ho : owedL x = [⟨x.fund, 1900, 0, w64 (0 - x.amt)⟩] := by unfold owedL; rw [if_neg h1, if_pos h2]
         simp -dsimp only [Vm.G, zA, zB, zC, zD, zE, zF, q165.1, AV.cells, zSa, zOa, c2]
         refine draw_cont [] (.take 0 (.take 1 (.take 2 (.take 3 (.take 4 (.take 6 (.take 7 (.take 8 (.take 9 (.alt 5 (.alt 10 (.take 11 (.alt 12 (.alt 13 (.alt 14 (.alt 15 (.done) .stop) .stop) .stop) .stop)) .stop) (.alt 10 (.take 11 (.alt 5 (.alt 12 (.alt 13 (.alt 14 (.alt 15 (.done) .stop) .stop) .stop) .stop) .stop)) (.stop)))))))))))) (fun s h2 => h2 = h' ∧ s 3 = .own true 45 4 ((balanceL (r.take (i + 1))).map lnAv) ∧ s 4 = .own true 45 4 (r.map lnAv) ∧ s 5 = .v (.int .i64 (i : Nat))) (by kernel_rfl) (by kernel_rfl) (by kernel_rfl) (by decide) ?_ ?_
         · clear hq
           repeat' first
             | with_reducible exact True.intro
             | refine idxO_intro (xs := r.map lnAv) (by omega) (by simp; omega) ?_
             | refine eltA_intro (xs := r.map lnAv) hgi ?_
             | refine bs_intro zr45 (by decide) (by decide) rfl rfl (by simp [solid, AV.cells]) ?_
             | refine app_sl Tryz.underlying33 (by simp [AV.cells]) (by simp only [zJa, zVa, zPa]; omega) ?_
             | simp -dsimp only [Vm.G, zA, zB, zC, zD, zE, zF, q165.1, zKa, lnAv, lnCells, AV.cells, zSa, zOa, htk, ho, zQa, zIb, zKb]
             | refine tree_alt ?_ ?_
             | repeat' first | rfl | exact True.intro | refine And.intro ?_ ?_
         · rintro s h2 ⟨rfl, e3, e4, e5⟩
           simp -dsimp only [Vm.G, zA, zB, zC, zD, zE, zF, q165.1, e3, e4, e5]
           refine kept_intro ⟨r.length - (i + 1), by omega, _, le_mk [(3, .own true 45 4 ((balanceL (r.take (i + 1))).map lnAv)), (4, .own true 45 4 (r.map lnAv)), (5, .v (.int .i64 (i + 1 : Nat)))] ?_, i + 1, by omega, rfl, rfl⟩
           simp only [Vm.D, hw, e3, e4, e5]
           try simp -dsimp only [Vm.G, zA, zB, zC, zD, zE, zF, q165.1, hw, e3, e4, e5]
           repeat' first | exact .refl _ | exact .nil _ _ _ (by decide) | refine ⟨?_, ?_⟩
       · have c2 : decide (x.amt < 0) = false := decide_eq_false h2
         have ho : owedL x = [] := by unfold owedL; rw [if_neg h1, if_neg h2]
         rw [ho, List.append_nil] at htk
         simp -dsimp only [Vm.G, zA, zB, zC, zD, zE, zF, q165.1, AV.cells, zSa, zOa, c2]
         refine kept_intro ⟨r.length - (i + 1), by omega, _, le_mk [(3, .own true 45 4 ((balanceL (r.take (i + 1))).map lnAv)), (4, .own true 45 4 (r.map lnAv)), (5, .v (.int .i64 (i + 1 : Nat)))] ?_, i + 1, by omega, rfl, rfl⟩
         simp only [Vm.D, hw, htk]
         try simp -dsimp only [Vm.G, zA, zB, zC, zD, zE, zF, q165.1, hw, htk]
         repeat' first | exact .refl _ | exact .nil _ _ _ (by decide) | refine ⟨?_, ?_⟩
   · have hge : ¬ i < r.length := by have := of_decide_eq_false hcc; omega
     rw [zMa (by omega)]
     simp -dsimp only [Vm.G, zA, zB, zC, zD, zE, zF, q165.1]
     exact hq r hr
def rAllLSpec : Vm.Spec := fun args h Q => ∃ l : List Ln, l.length ≤ 1048576 ∧ (∀ x ∈ l, x.ok) ∧ args = [.sl 4 (l.map lnAv)] ∧ ∀ r, IsFunds l r → Q (.own true 45 4 ((l ++ balanceL r).map lnAv)) h
theorem does_rAllL : Does Tryz.prog 103 rAllLSpec := by
 refine dA (good_cons does_rBalance good_nil) Tryz.func103 rfl (by decide +kernel) ?_
 rintro args h Q ⟨l, hl, hok, rfl, hq⟩
 refine ⟨by simp [Tryz.f103], ?_⟩
 have hu : ∀ (l : List Ln), ∀ c ∈ l.map lnAv, c.cells.length = 4 := fun l c hc => by obtain ⟨y, -, rfl⟩ := List.mem_map.1 hc; rfl
 simp -dsimp only [Vm.G, zA, zB, zC, zD, zE, zF, q103.1, append_nil ei33]
 refine app_sl Tryz.underlying33 (hu _) (by simp only [zJa, zPa]; omega) ?_
 simp -dsimp only [Vm.G, zA, zB, zC, zD, zE, zF, q103.1, List.nil_append]
 refine call_one (S := rBalanceSpec) rfl _ GaL.rfl ⟨l, by omega, hok, rfl, fun r hr => ?_⟩
 have hbl := balance_len r
 have hrl := hr.len
 simp -dsimp only [Vm.G, zA, zB, zC, zD, zE, zF, q103.1, append_own ei33]
 refine app_sl Tryz.underlying33 (hu _) (by simp only [zJa]; omega) ?_
 simp -dsimp only [Vm.G, zA, zB, zC, zD, zE, zF, q103.1]
 rw [← zQa]
 exact hq r hr
theorem does_rLn : Does Tryz.prog 162 rlnSpec := by
 refine dA (good_cons does_rPair good_nil) Tryz.func162 rfl (by decide +kernel) ?_
 rintro args h Q ⟨id, i, x, hid, hi, ⟨o1, o2, o3, o4⟩, rfl, hq⟩
 refine ⟨by simp [Tryz.f162], ?_⟩
 simp only [lnAv, lnCells]
 simp -dsimp only [Vm.G, zA, zB, zC, zD, zE, zF, q162.1]
 refine bs_intro zr3 (by decide) (by decide) rfl rfl (by simp [solid, AV.cells]) ?_
 simp -dsimp only [Vm.G, zA, zB, zC, zD, zE, zF, q162.1]
 refine bs_intro zr3 (by decide) (by decide) rfl rfl (by simp [solid, AV.cells]) ?_
 simp -dsimp only [Vm.G, zA, zB, zC, zD, zE, zF, q162.1]
 refine call_one (S := rPairSpec) rfl _ GaL.rfl ⟨74, [id, i], [x.fund, x.obj, x.amt], by simp, by simp, ?_, rfl, ?_⟩
 · intro m hm
   simp only [zWa, zNa, or_false] at hm
   rcases hm with rfl | rfl | rfl <;> assumption
 · simp -dsimp only [Vm.G, zA, zB, zC, zD, zE, zF, q162.1]
   exact hq
theorem does_rEn : Does Tryz.prog 164 renSpec := by
 refine dA (good_cons does_rPair good_nil) Tryz.func164 rfl (by decide +kernel) ?_
 rintro args h Q ⟨d, ⟨o1, o2, o3, o4, o5, o6⟩, rfl, hq⟩
 refine ⟨by simp [Tryz.f164], ?_⟩
 simp only [enCells]
 simp -dsimp only [Vm.G, zA, zB, zC, zD, zE, zF, q164.1]
 refine bs_intro zr3 (by decide) (by decide) rfl rfl (by simp [solid, AV.cells]) ?_
 simp -dsimp only [Vm.G, zA, zB, zC, zD, zE, zF, q164.1]
 refine bs_intro zr3 (by decide) (by decide) rfl rfl (by simp [solid, AV.cells]) ?_
 simp -dsimp only [Vm.G, zA, zB, zC, zD, zE, zF, q164.1]
 refine call_one (S := rPairSpec) rfl _ GaL.rfl ⟨69, [d.id], [d.year, d.kind, d.lines, d.of', d.by'], by simp, by simp, ?_, rfl, ?_⟩
 · intro m hm
   simp only [zWa, zNa, or_false] at hm
   rcases hm with rfl | rfl | rfl | rfl | rfl <;> assumption
 · simp -dsimp only [Vm.G, zA, zB, zC, zD, zE, zF, q164.1]
   exact hq
def rStandSpec : Vm.Spec := fun args h Q => ∃ (R : RId) (f : Fun) (e : En) (all : List Ln), e.ok ∧ (∀ x ∈ all, x.ok) ∧ all.length ≤ 1048576 ∧ args = [.ptr R.iv 0, .agg (enCells e), .sl 4 (all.map lnAv)] ∧ isRef h R f ∧ f.n ≤ 268435456 ∧
 ∀ h', isRef h' R (standF f e.year e.kind e.of' all).1 → Same h h' (rFoot R) → Q (.tup [.v (.int .i64 (standF f e.year e.kind e.of' all).2.1), .v (.int .i64 (standF f e.year e.kind e.of' all).2.2)]) h'
theorem does_rStand : Does Tryz.prog 102 rStandSpec := by
 refine dA (good_cons does_rCheck (good_cons does_rNext (good_cons does_rLn (good_cons does_rSet (good_cons does_rbAdd (good_cons does_rEn good_nil)))))) Tryz.func102 rfl (by decide +kernel) ?_
 rintro args h Q ⟨R, f, e, all, heo, hao, hal, rfl, hR, hfn, hq⟩
 refine ⟨by simp [Tryz.f102], ?_⟩
 rcases e with ⟨eid, y, kind, elines, of', eby⟩
 rcases heo with ⟨o1, o2, o3, o4, o5, o6⟩
 simp only at hq o1 o2 o3 o4 o5 o6
 simp only [enCells]
 simp -dsimp only [Vm.G, zA, zB, zC, zD, zE, zF, q102.1]
 refine call_one (S := rCheckSpec) rfl _ GaL.rfl ⟨R, f, y, rfl, hR, by omega, ?_⟩
 have h0 := zIa (checkY f y != 0)
 rcases h0 with c | c
 · have d : checkY f y ≠ 0 := by simpa using c
   have hsf : standF f y kind of' all = (f, 0, checkY f y) := by unfold standF; rw [if_pos d]
   rw [hsf] at hq
   simp -dsimp only [Vm.G, zA, zB, zC, zD, zE, zF, q102.1, c]
   exact hq h hR (.refl _ _)
 · have d : ¬ checkY f y ≠ 0 := by simpa using c
   simp -dsimp only [Vm.G, zA, zB, zC, zD, zE, zF, q102.1, c]
   refine call_one (S := rNextSpec) rfl _ GaL.rfl ⟨R, f, 1, rfl, hR, by omega, fun hb => ?_, fun hb h1 hR1 hs1 => ?_⟩
   · have hsf : standF f y kind of' all = (f, 0, 9) := by unfold standF; rw [if_neg d, if_pos hb]
     rw [hsf] at hq
     simp -dsimp only [Vm.G, zA, zB, zC, zD, zE, zF, q102.1]
     exact hq h hR (.refl _ _)
   · have hsf : standF f y kind of' all = if (postL y (readOf f (seqKey 1) + 1) 0 all (upd f (seqKey 1) (some (be 8 (readOf f (seqKey 1) + 1))))).2 ≠ 0 then
         ((postL y (readOf f (seqKey 1) + 1) 0 all (upd f (seqKey 1) (some (be 8 (readOf f (seqKey 1) + 1))))).1, 0, (postL y (readOf f (seqKey 1) + 1) 0 all (upd f (seqKey 1) (some (be 8 (readOf f (seqKey 1) + 1))))).2)
         else (upd (postL y (readOf f (seqKey 1) + 1) 0 all (upd f (seqKey 1) (some (be 8 (readOf f (seqKey 1) + 1))))).1 (enK (readOf f (seqKey 1) + 1)) (some (enV y kind all.length of' 0)), readOf f (seqKey 1) + 1, 0) := by
       unfold standF; rw [if_neg d, if_neg hb]
     rw [hsf] at hq
     have hid : I64 (readOf f (seqKey 1) + 1) := by unfold I64; omega
     have hf1 : (upd f (seqKey 1) (some (be 8 (readOf f (seqKey 1) + 1)))).n = f.n + 1 := rfl
     clear hsf d hb c
     generalize readOf f (seqKey 1) + 1 = id at hq hid hR1 hf1 ⊢
     generalize upd f (seqKey 1) (some (be 8 id)) = f1 at hq hR1 hf1
     simp -dsimp only [Vm.G, zA, zB, zC, zD, zE, zF, q102.1, bne_self_eq_false]
     refine awp_loop (fun m s h' => ∃ (i : Nat) (f2 : Fun), i + m = all.length ∧ isRef h' R f2 ∧ f2.n ≤ f.n + 1 + 2 * i ∧ Same h h' (rFoot R) ∧ postL y id 0 all f1 = postL y id i (all.drop i) f2 ∧ s = mk [(0, .ptr R.iv 0), (2, .sl 4 (all.map lnAv)), (4, .box [.v (.int .i64 eid), .v (.int .i64 y), .v (.int .i64 kind), .v (.int .i64 elines), .v (.int .i64 of'), .v (.int .i64 eby)]), (9, .v (.int .i64 id)), (11, .v (.int .i64 (i : Nat)))])
       all.length _ (le_mk _ ?_) ⟨0, f1, by omega, hR1, by omega, hs1, by rw [zSa], rfl⟩ ?_
     · simp only [Vm.D]
       try simp -dsimp only [Vm.G, zA, zB, zC, zD, zE, zF, q102.1]
       repeat' first | exact .refl _ | exact .nil _ _ _ (by decide) | refine ⟨?_, ?_⟩
     · clear hR hR1
       rintro m s h' ⟨i, f2, hi, hR2, hn2, hs2, hp, rfl⟩
       simp -dsimp only [Vm.G, zA, zB, zC, zD, zE, zF, q102.1]
       refine cond_intro (fun hcc => ?_) (fun hcc => ?_)
       · have hlt : i < all.length := by have := of_decide_eq_true hcc; omega
         have hw := hwN i (by omega)
         have hxo := hao all[i] (zRa hlt)
         have hxe : ∃ x, all[i] = x := ⟨_, rfl⟩
         rcases hxe with ⟨x, hx⟩
         rw [hx] at hxo
         rw [zYa hlt, hx, post_cons] at hp
         simp -dsimp only [Vm.G, zA, zB, zC, zD, zE, zF, q102.1]
         refine idx_map lnAv all i hlt ?_
         simp only [hx, lnAv, lnCells]
         simp -dsimp only [Vm.G, zA, zB, zC, zD, zE, zF, q102.1, AV.cells]
         refine call_one (S := rlnSpec) rfl _ GaL.rfl ⟨id, i, x, hid, by unfold I64; omega, hxo, rfl, ?_⟩
         simp -dsimp only [Vm.G, zA, zB, zC, zD, zE, zF, q102.1]
         refine call_one (S := rSetSpec) rfl _ GaL.rfl ⟨R, f2, (jK id i, jV x), rfl, hR2, by omega, fun h3 g1 g2 => ?_⟩
         rw [if_pos (right_j id i x)] at g1
         have hun : (upd f2 (jK id i) (some (jV x))).n = f2.n + 1 := rfl
         have hbn := balAdd_n (upd f2 (jK id i) (some (jV x))) (balK y x.fund x.obj) x.amt
         simp -dsimp only [Vm.G, zA, zB, zC, zD, zE, zF, q102.1]
         refine draw_cont [] (.take 0 (.take 1 (.take 3 (.take 4 (.take 5 (.take 6 (.alt 2 (.alt 7 (.alt 8 (.done) .stop) .stop) .stop))))))) (fun s h4 => isRef h4 R (balAdd (upd f2 (jK id i) (some (jV x))) (balK y x.fund x.obj) x.amt).1 ∧ Same h h4 (rFoot R) ∧ s 12 = .v (.int .i64 (balAdd (upd f2 (jK id i) (some (jV x))) (balK y x.fund x.obj) x.amt).2) ∧ s 0 = .ptr R.iv 0 ∧ s 2 = .sl 4 (all.map lnAv) ∧ s 4 = .box [.v (.int .i64 eid), .v (.int .i64 y), .v (.int .i64 kind), .v (.int .i64 elines), .v (.int .i64 of'), .v (.int .i64 eby)] ∧ s 9 = .v (.int .i64 id) ∧ s 11 = .v (.int .i64 (i : Nat))) (by kernel_rfl) (by kernel_rfl) (by kernel_rfl) (by decide) ?_ ?_
         · clear hq hp
           repeat' first
             | with_reducible exact True.intro
             | (refine idx_map lnAv all i hlt ?_; simp only [hx, lnAv, lnCells])
             | refine call_one (S := rbAddSpec) rfl _ GaL.rfl ⟨R, upd f2 (jK id i) (some (jV x)), y, x, rfl, g1, by omega, fun h4 g3 g4 => ?_⟩
             | simp -dsimp only [Vm.G, zA, zB, zC, zD, zE, zF, q102.1, AV.cells]
             | refine tree_alt ?_ ?_
             | refine ⟨g3, (hs2.trans g2).trans g4, ?_⟩
             | repeat' first | rfl | exact True.intro | refine And.intro ?_ ?_
         · rintro s h4 ⟨g3, g4, e12, e0, e2, e4, e9, e11⟩
           generalize balAdd (upd f2 (jK id i) (some (jV x))) (balK y x.fund x.obj) x.amt = q at hp g3 hbn e12
           rcases q with ⟨f3, qe⟩
           simp only at hp g3 hbn e12
           have h0 := zIa (qe != 0)
           rcases h0 with c | c
           · have d : qe ≠ 0 := by simpa using c
             rw [if_pos d] at hp
             rw [hp, if_pos d] at hq
             simp -dsimp only [Vm.G, zA, zB, zC, zD, zE, zF, q102.1, e12, c]
             exact hq h4 g3 g4
           · have d : ¬ qe ≠ 0 := by simpa using c
             rw [if_neg d] at hp
             simp -dsimp only [Vm.G, zA, zB, zC, zD, zE, zF, q102.1, e12, e0, e2, e4, e9, e11, c]
             refine kept_intro ⟨all.length - (i + 1), by omega, _, le_mk [(0, .ptr R.iv 0), (2, .sl 4 (all.map lnAv)), (4, .box [.v (.int .i64 eid), .v (.int .i64 y), .v (.int .i64 kind), .v (.int .i64 elines), .v (.int .i64 of'), .v (.int .i64 eby)]), (9, .v (.int .i64 id)), (11, .v (.int .i64 (i + 1 : Nat)))] ?_, i + 1, f3, by omega, g3, by omega, g4, hp, rfl⟩
             simp only [Vm.D, hw, e0, e2, e4, e9, e11]
             try simp -dsimp only [Vm.G, zA, zB, zC, zD, zE, zF, q102.1, hw, e0, e2, e4, e9, e11]
             repeat' first | exact .refl _ | exact .nil _ _ _ (by decide) | refine ⟨?_, ?_⟩
       · have hge : ¬ i < all.length := by have := of_decide_eq_false hcc; omega
         rw [List.drop_eq_nil_of_le (by omega)] at hp
         have hp2 : postL y id 0 all f1 = (f2, 0) := hp
         rw [hp2] at hq
         simp only [ne_eq, not_true, if_false] at hq
         have hal2 : I64 (all.length : Int) := by unfold I64; omega
         clear hcc hp hp2
         simp -dsimp only [Vm.G, zA, zB, zC, zD, zE, zF, q102.1]
         refine call_one (S := renSpec) rfl _ GaL.rfl ⟨⟨id, y, kind, all.length, of', 0⟩, ⟨hid, o2, o3, hal2, o5, show I64 0 by unfold I64; omega⟩, rfl, ?_⟩
         simp -dsimp only [Vm.G, zA, zB, zC, zD, zE, zF, q102.1]
         refine call_one (S := rSetSpec) rfl _ GaL.rfl ⟨R, f2, (enK id, enV y kind all.length of' 0), rfl, hR2, by omega, fun h3 g1 g2 => ?_⟩
         rw [if_pos (right_en _ _ _ _ _ _)] at g1
         simp -dsimp only [Vm.G, zA, zB, zC, zD, zE, zF, q102.1]
         exact hq h3 g1 (hs2.trans g2)
def rEntrySpec : Vm.Spec := fun args h Q => ∃ (R : RId) (f : Fun) (e : En) (l : List Ln), e.ok ∧ (∀ x ∈ l, x.ok) ∧ l.length ≤ 1048576 ∧ args = [.ptr R.iv 0, .agg (enCells e), .sl 4 (l.map lnAv)] ∧ isRef h R f ∧ f.n ≤ 268435456 ∧
 ∀ h', isRef h' R (entX f e.year e.kind e.of' l).1 → Same h h' (rFoot R) → Q (.tup [.v (.int .i64 (entX f e.year e.kind e.of' l).2.1), .v (.int .i64 (entX f e.year e.kind e.of' l).2.2)]) h'
theorem entX_no {f : Fun} {y k o : Int} {l : List Ln} (h : l.length = 0 ∨ 200 < l.length) : entX f y k o l = (f, 0, 1) := by unfold entX entryF; rw [if_pos h]
theorem entX_yes {f : Fun} {y k o : Int} {l r : List Ln} (h : ¬ (l.length = 0 ∨ 200 < l.length)) (hr : IsFunds l r) : entX f y k o l = standF f y k o (l ++ balanceL r) := by unfold entX entryF; rw [if_neg h, fundsL_eq hr]
theorem does_rEntry : Does Tryz.prog 51 rEntrySpec := by
 refine dA (good_cons does_rAllL (good_cons does_rStand good_nil)) Tryz.func51 rfl (by decide +kernel) ?_
 rintro args h Q ⟨R, f, e, l, heo, hlo, hl, rfl, hR, hfn, hq⟩
 refine ⟨by simp [Tryz.f51], ?_⟩
 rcases e with ⟨eid, y, kind, elines, of', eby⟩
 simp only at hq
 have h0 := zIa (decide ((l.length : Int) < 1))
 rcases h0 with c | c
 · have d : l.length = 0 := by have := of_decide_eq_true c; omega
   rw [entX_no (.inl d)] at hq
   simp only [enCells]
   simp -dsimp only [Vm.G, zA, zB, zC, zD, zE, zF, q51.1, c]
   exact hq h hR (.refl _ _)
 · have d : ¬ l.length = 0 := by have := of_decide_eq_false c; omega
   have h0 := zIa (decide ((l.length : Int) > 200))
   rcases h0 with c2 | c2
   · have d2 : 200 < l.length := by have := of_decide_eq_true c2; omega
     rw [entX_no (.inr d2)] at hq
     simp only [enCells]
     simp -dsimp only [Vm.G, zA, zB, zC, zD, zE, zF, q51.1, c, c2]
     exact hq h hR (.refl _ _)
   · have d2 : ¬ 200 < l.length := by have := of_decide_eq_false c2; omega
     have hno : ¬ (l.length = 0 ∨ 200 < l.length) := by omega
     simp only [enCells]
     simp -dsimp only [Vm.G, zA, zB, zC, zD, zE, zF, q51.1, c, c2]
     refine draw_cont [4] (.take 0 (.take 1 (.take 2 (.alt 3 (.alt 4 (.take 5 (.take 6 (.alt 7 (.alt 8 (.done) .stop) .stop))) .stop) .stop)))) (fun s h' => isRef h' R (entX f y kind of' l).1 ∧ Same h h' (rFoot R) ∧ s 6 = .v (.int .i64 (entX f y kind of' l).2.1) ∧ s 7 = .v (.int .i64 (entX f y kind of' l).2.2)) (by kernel_rfl) (by kernel_rfl) (by kernel_rfl) (by decide) ?_ ?_
     · clear hq
       have hallok : ∀ r, IsFunds l r → ∀ x ∈ l ++ balanceL r, x.ok := fun r hr x hx => by
         rcases List.mem_append.1 hx with hx | hx
         · exact hlo x hx
         · exact balance_ok hr hlo x hx
       repeat' first
         | with_reducible exact True.intro
         | simp -dsimp only [Vm.G, zA, zB, zC, zD, zE, zF, q51.1]
         | (refine call_one (S := rAllLSpec) rfl _ GaL.rfl ⟨l, by omega, hlo, rfl, fun r hr => ?_⟩
            have hbl := balance_len r
            have hrl := hr.len
            rw [entX_yes hno hr])
         | refine call_one (S := rStandSpec) rfl _ GaL.rfl ⟨R, f, ⟨eid, y, kind, elines, of', eby⟩, l ++ balanceL r, heo, hallok r hr, by rw [zXa]; omega, rfl, hR, hfn, fun h2 g1 g2 => ?_⟩
         | refine tree_alt ?_ ?_
         | refine ⟨g1, g2, ?_⟩
         | repeat' first | rfl | exact True.intro | refine And.intro ?_ ?_
     · rintro s h' ⟨g1, g2, e6, e7⟩
       simp -dsimp only [Vm.G, zA, zB, zC, zD, zE, zF, q51.1, e6, e7]
       exact hq h' g1 g2
theorem takeOne_neg {f : Fun} {frm : Int} {x : Ln} (h : x.node < 0) : takeOne f frm x = (f, .zero, 7) := by unfold takeOne; rw [if_pos h]
theorem takeOne_out {f : Fun} {frm : Int} {x : Ln} {own : List Dl} (ho : ownAt f frm = own) (h : ¬ x.node < 0) (h2 : own.length ≤ x.node.toNat) : takeOne f frm x = (f, .zero, 7) := by
 unfold takeOne
 rw [if_neg h, ho, List.getElem?_eq_none h2]
theorem takeOne_few {f : Fun} {frm : Int} {x : Ln} {own : List Dl} {y : Dl} (ho : ownAt f frm = own) (h : ¬ x.node < 0) (hy : own[x.node.toNat]? = some y) (h3 : openD y < x.amt) : takeOne f frm x = (f, .zero, 12) := by
 unfold takeOne
 rw [if_neg h, ho, hy]
 simp only
 rw [if_pos h3]
theorem takeOne_yes {f : Fun} {frm : Int} {x : Ln} {own : List Dl} {y : Dl} (ho : ownAt f frm = own) (h : ¬ x.node < 0) (hy : own[x.node.toNat]? = some y) (h3 : ¬ openD y < x.amt) :
   takeOne f frm x = (upd f (dlK frm x.node) (some (dlV { y with liq := w64 (y.liq + x.amt) })), ⟨y.node, x.amt, 0, 0⟩, 0) := by
 unfold takeOne
 rw [if_neg h, ho, hy]
 simp only
 rw [if_neg h3]
def rTakeSpec : Vm.Spec := fun args h Q => ∃ (R : RId) (f : Fun) (kind year frm : Int) (l : List Ln), I64 frm ∧ (∀ x ∈ l, x.ok) ∧ l.length ≤ 1048576 ∧ args = [.ptr R.iv 0, .v (.int .i64 kind), .v (.int .i64 year), .v (.int .i64 frm), .sl 4 (l.map lnAv)] ∧ isRef h R f ∧ f.n ≤ 268435456 ∧
 ∀ h', isRef h' R (takeOf f kind year frm l).1 → Same h h' (rFoot R) → takeAns (takeOf f kind year frm l) Q h'
attribute [local irreducible] takeOne takeL
theorem does_rTake : Does Tryz.prog 45 rTakeSpec := by
 refine does_of_awpO 0 (good_cons does_rDocsGet (good_cons does_rDocsOpen (good_cons does_rDocsSet good_nil))) Tryz.func45 rfl (by decide +kernel) (by decide +kernel) ?_
 rintro args h Q ⟨R, f, kind, year, frm, l, hfr, hok, hl, rfl, hR, hfn, hq⟩
 refine ⟨by simp [Tryz.f45], ?_⟩
 rw [awpFuncO_some (by rfl)]
 unfold takeOf at hq
 simp -dsimp only [Vm.G, zA, zB, zC, zD, zE, zF, q45.1]
 refine call_one (S := rDocsGetSpec) rfl _ GaL.rfl ⟨R, f, frm, rfl, hR, by omega, fun d own hd hl6 hdl => ?_, fun hn => ?_⟩
 · rw [hd] at hq
   simp only at hq
   simp only [dcCells]
   simp -dsimp only [Vm.G, zA, zB, zC, zD, zE, zF, q45.1]
   have h1 := zIa (d.kind != kind)
   rcases h1 with c1 | c1
   · have d1 : d.kind ≠ kind := by simpa using c1
     rw [if_pos (.inl d1)] at hq
     have hq' := (hq h hR (.refl _ _)).2 (show (12 : Int) ≠ 0 by decide)
     simp -dsimp only [Vm.G, zA, zB, zC, zD, zE, zF, q45.1, c1]
     exact hq'
   · have d1 : ¬ d.kind ≠ kind := by simpa using c1
     simp -dsimp only [Vm.G, zA, zB, zC, zD, zE, zF, q45.1, c1]
     have h2 := zIa (d.year != year)
     rcases h2 with c2 | c2
     · have d2 : d.year ≠ year := by simpa using c2
       rw [if_pos (.inr d2)] at hq
       have hq' := (hq h hR (.refl _ _)).2 (show (12 : Int) ≠ 0 by decide)
       simp -dsimp only [Vm.G, zA, zB, zC, zD, zE, zF, q45.1, c2]
       exact hq'
     · have d2 : ¬ d.year ≠ year := by simpa using c2
       rw [if_neg (fun h => h.elim d1 d2)] at hq
       simp -dsimp only [Vm.G, zA, zB, zC, zD, zE, zF, q45.1, c2]
       refine awp_loop (fun m s h' => ∃ (i : Nat) (g : Fun) (out : List Dl), i + m = l.length ∧ out.length ≤ i ∧ isRef h' R g ∧ g.n ≤ f.n + i ∧ Same h h' (rFoot R) ∧ takeL frm (l.drop i) g out = takeL frm l f [] ∧ s = mk [(0, .ptr R.iv 0), (3, .v (.int .i64 frm)), (4, .sl 4 (l.map lnAv)), (15, .own true 47 4 ((out).map dlAv)), (16, .v (.int .i64 (i : Nat)))])
         l.length _ (le_mk _ ?_) ⟨0, f, [], by omega, by simp, hR, by omega, .refl _ _, rfl, rfl⟩ ?_
       · simp only [Vm.D]
         try simp -dsimp only [Vm.G, zA, zB, zC, zD, zE, zF, q45.1]
         repeat' first | exact .refl _ | exact .nil _ _ _ (by decide) | refine ⟨?_, ?_⟩
       · clear hR hd d1 d2
         rintro m s h' ⟨i, g, out, hi, hol, hR, hgn, hsm, hp, rfl⟩
         simp -dsimp only [Vm.G, zA, zB, zC, zD, zE, zF, q45.1]
         refine cond_intro (fun hcc => ?_) (fun hcc => ?_)
         · have hlt : i < l.length := by have := of_decide_eq_true hcc; omega
           have hw := hwN i (by omega)
           have hox := hok l[i] (zRa hlt)
           rw [zYa hlt] at hp
           have hxe : ∃ x, l[i] = x := ⟨_, rfl⟩
           rcases hxe with ⟨x, hx⟩
           rw [hx] at hp hox
           rw [takeL_cons] at hp
           simp -dsimp only [Vm.G, zA, zB, zC, zD, zE, zF, q45.1]
           refine call_one (S := rDocsGetSpec) rfl _ GaL.rfl ⟨R, g, frm, rfl, hR, by omega, fun d own hd hl6 hdl => ?_, fun hn => ?_⟩
           · have ho := ownAt_some hd
             simp only [dcCells]
             simp -dsimp only [Vm.G, zA, zB, zC, zD, zE, zF, q45.1]
             refine idx_map lnAv l i hlt ?_
             simp only [hx, lnAv, lnCells]
             simp -dsimp only [Vm.G, zA, zB, zC, zD, zE, zF, q45.1, AV.cells]
             have h3 := zIa (decide (x.node < 0))
             rcases h3 with c3 | c3
             · have d3 := of_decide_eq_true c3
               rw [takeOne_neg d3] at hp
               have hp : (g, ([] : List Dl), (7 : Int)) = takeL frm l f [] := hp
               rw [← hp] at hq
               have hq' := (hq h' hR hsm).2 (show (7 : Int) ≠ 0 by decide)
               simp -dsimp only [Vm.G, zA, zB, zC, zD, zE, zF, q45.1, c3]
               exact hq'
             · have d3 := of_decide_eq_false c3
               simp -dsimp only [Vm.G, zA, zB, zC, zD, zE, zF, q45.1, c3]
               have h4 := zIa (decide (x.node ≥ (own.length : Int)))
               rcases h4 with c4 | c4
               · have d4 := of_decide_eq_true c4
                 rw [takeOne_out ho d3 (by omega)] at hp
                 have hp : (g, ([] : List Dl), (7 : Int)) = takeL frm l f [] := hp
                 rw [← hp] at hq
                 have hq' := (hq h' hR hsm).2 (show (7 : Int) ≠ 0 by decide)
                 simp -dsimp only [Vm.G, zA, zB, zC, zD, zE, zF, q45.1, c4]
                 exact hq'
               · have d4 := of_decide_eq_false c4
                 have hltn : x.node.toNat < own.length := by omega
                 have hye : ∃ y, own[x.node.toNat]? = some y := ⟨_, List.getElem?_eq_getElem hltn⟩
                 rcases hye with ⟨y, hy⟩
                 have hyo := docAt_ok hd y (List.mem_of_getElem? hy)
                 have hgi : (own.map dlAv)[x.node.toNat]? = some (dlAv y) := by rw [List.getElem?_map, hy]; rfl
                 have hds := docsSet_own (f := g) (id := frm) (i := x.node) { y with liq := w64 (y.liq + x.amt) } (by omega) (by rw [ho]; omega)
                 have hfew := takeOne_few (f := g) (frm := frm) (x := x) ho d3 hy
                 have hyes := takeOne_yes (f := g) (frm := frm) (x := x) ho d3 hy
                 simp -dsimp only [Vm.G, zA, zB, zC, zD, zE, zF, q45.1, c4]
                 refine idxO_intro (xs := own.map dlAv) (by omega) (by simp; omega) ?_
                 simp -dsimp only [Vm.G, zA, zB, zC, zD, zE, zF, q45.1]
                 refine eltA_intro (xs := own.map dlAv) hgi ?_
                 simp only [dlAv, dlCells]
                 simp -dsimp only [Vm.G, zA, zB, zC, zD, zE, zF, q45.1, AV.cells, zSa]
                 refine draw_cont [] (.take 2 (.take 3 (.take 4 (.take 5 (.take 6 (.alt 0 (.alt 1 (.take 7 (.done)) .stop) .stop)))))) (fun s h2 => h2 = h' ∧ s 78 = .v (.bool (decide (openD y < x.amt))) ∧ s 0 = .ptr R.iv 0 ∧ s 3 = .v (.int .i64 frm) ∧ s 4 = .sl 4 (l.map lnAv) ∧ s 16 = .v (.int .i64 (i : Nat)) ∧ s 15 = .own true 47 4 (out.map dlAv) ∧ s 20 = .v (.int .i64 x.node) ∧ s 21 = .box [.v (.int .i64 y.node), .v (.int .i64 y.orig), .v (.int .i64 y.liq), .v (.int .i64 y.can)]) (by kernel_rfl) (by kernel_rfl) (by kernel_rfl) (by decide) ?_ ?_
                 · clear hq hp
                   simp -dsimp only [Vm.G, zA, zB, zC, zD, zE, zF, q45.1]
                   refine idx_map lnAv l i hlt ?_
                   simp only [hx, lnAv, lnCells]
                   simp -dsimp only [Vm.G, zA, zB, zC, zD, zE, zF, q45.1, AV.cells]
                   refine call_one (S := openDSpec) rfl _ GaL.rfl ⟨y, rfl, ?_⟩
                   simp -dsimp only [Vm.G, zA, zB, zC, zD, zE, zF, q45.1]
                   repeat' first | rfl | exact True.intro | refine And.intro ?_ ?_
                 · rintro s h2 ⟨rfl, e78, e0, e3, e4, e16, e15, e20, e21⟩
                   have h5 := zIa (decide (openD y < x.amt))
                   rcases h5 with c5 | c5
                   · have d5 := of_decide_eq_true c5
                     rw [hfew d5] at hp
                     have hp : (g, ([] : List Dl), (12 : Int)) = takeL frm l f [] := hp
                     rw [← hp] at hq
                     have hq' := (hq h2 hR hsm).2 (show (12 : Int) ≠ 0 by decide)
                     simp -dsimp only [Vm.G, zA, zB, zC, zD, zE, zF, q45.1, e78, e0, e3, e4, e16, e15, e20, e21, c5]
                     exact hq'
                   · have d5 := of_decide_eq_false c5
                     rw [hyes d5] at hp
                     have hp : takeL frm (l.drop (i + 1)) (upd g (dlK frm x.node) (some (dlV { y with liq := w64 (y.liq + x.amt) }))) (out ++ [(⟨y.node, x.amt, 0, 0⟩ : Dl)]) = takeL frm l f [] := hp
                     have hy2 : Dl.ok { y with liq := w64 (y.liq + x.amt) } := ⟨hyo.1, hyo.2.1, w64_range _, hyo.2.2.2⟩
                     simp -dsimp only [Vm.G, zA, zB, zC, zD, zE, zF, q45.1, e78, e0, e3, e4, e16, e15, e20, e21, c5]
                     refine draw_cont [] (.take 0 (.take 2 (.take 3 (.take 4 (.take 5 (.take 6 (.alt 1 (.take 7 (.take 8 (.alt 9 (.done) .stop))) .stop))))))) (fun s h3 => h3 = h2 ∧ s 0 = .ptr R.iv 0 ∧ s 3 = .v (.int .i64 frm) ∧ s 4 = .sl 4 (l.map lnAv) ∧ s 16 = .v (.int .i64 (i : Nat)) ∧ s 15 = .own true 47 4 (out.map dlAv) ∧ s 20 = .v (.int .i64 x.node) ∧ s 21 = .box [.v (.int .i64 y.node), .v (.int .i64 y.orig), .v (.int .i64 (IntKind.i64.wrap (y.liq + x.amt))), .v (.int .i64 y.can)]) (by kernel_rfl) (by kernel_rfl) (by kernel_rfl) (by decide) ?_ ?_
                     · clear hq hp
                       simp -dsimp only [Vm.G, zA, zB, zC, zD, zE, zF, q45.1, e0, e3, e4, e16, e15, e20, e21]
                       refine idx_map lnAv l i hlt ?_
                       simp only [hx, lnAv, lnCells]
                       simp -dsimp only [Vm.G, zA, zB, zC, zD, zE, zF, q45.1, AV.cells, e0, e3, e4, e16, e15, e20, e21]
                       repeat' first | rfl | exact True.intro | refine And.intro ?_ ?_
                     · rintro s h3 ⟨rfl, f0, f3, f4, f16, f15, f20, f21⟩
                       simp -dsimp only [Vm.G, zA, zB, zC, zD, zE, zF, q45.1, f0, f3, f4, f16, f15, f20, f21]
                       refine call_one (S := rDocsSetSpec) rfl _ GaL.rfl ⟨R, g, frm, x.node, { y with liq := w64 (y.liq + x.amt) }, hfr, hox.2.2.1, hy2, rfl, hR, by omega, fun h4 g1 g2 => ?_⟩
                       rw [hds] at g1 ⊢
                       simp only at g1 ⊢
                       simp -dsimp only [Vm.G, zA, zB, zC, zD, zE, zF, q45.1, f0, f3, f4, f16, f15, f20, f21]
                       refine draw_cont [21] (.take 0 (.take 1 (.take 2 (.take 3 (.take 4 (.take 5 (.take 6 (.take 7 (.alt 8 (.alt 9 (.alt 10 (.alt 11 (.done) .stop) .stop) .stop) .stop))))))))) (fun s h5 => h5 = h4 ∧ s 0 = .ptr R.iv 0 ∧ s 3 = .v (.int .i64 frm) ∧ s 4 = .sl 4 (l.map lnAv) ∧ s 16 = .v (.int .i64 (i : Nat)) ∧ s 15 = .own true 47 4 ((out ++ [(⟨y.node, x.amt, 0, 0⟩ : Dl)]).map dlAv)) (by kernel_rfl) (by kernel_rfl) (by kernel_rfl) (by decide) ?_ ?_
                       · clear hq hp
                         simp -dsimp only [Vm.G, zA, zB, zC, zD, zE, zF, q45.1, f0, f3, f4, f16, f15, f20, f21]
                         refine idx_map lnAv l i hlt ?_
                         simp only [hx, lnAv, lnCells]
                         simp -dsimp only [Vm.G, zA, zB, zC, zD, zE, zF, q45.1, AV.cells, f0, f3, f4, f16, f15, f20, f21]
                         refine bs_intro zr47 (by decide) (by decide) rfl rfl (by simp [solid, AV.cells]) ?_
                         simp -dsimp only [Vm.G, zA, zB, zC, zD, zE, zF, q45.1, f0, f3, f4, f16, f15, f20, f21]
                         refine app_sl Tryz.underlying43 (by simp [AV.cells]) (by simp only [zJa, zVa, zPa]; omega) ?_
                         simp -dsimp only [Vm.G, zA, zB, zC, zD, zE, zF, q45.1, f0, f3, f4, f16, f15, f20, f21]
                         simp only [zQa, zIb, zKb, dlAv, dlCells]
                         repeat' first | rfl | exact True.intro | refine And.intro ?_ ?_
                       · rintro s h5 ⟨rfl, k0, k3, k4, k16, k15⟩
                         simp -dsimp only [Vm.G, zA, zB, zC, zD, zE, zF, q45.1, k0, k3, k4, k16, k15]
                         refine kept_intro ⟨l.length - (i + 1), by omega, _, le_mk [(0, .ptr R.iv 0), (3, .v (.int .i64 frm)), (4, .sl 4 (l.map lnAv)), (15, .own true 47 4 ((out ++ [(⟨y.node, x.amt, 0, 0⟩ : Dl)]).map dlAv)), (16, .v (.int .i64 (i + 1 : Nat)))] ?_, i + 1, _, out ++ [(⟨y.node, x.amt, 0, 0⟩ : Dl)], by omega, by rw [zXa, List.length_singleton]; omega, g1, by show g.n + 1 ≤ _; omega, hsm.trans g2, hp, rfl⟩
                         simp only [Vm.D, hw, k0, k3, k4, k16, k15]
                         try simp -dsimp only [Vm.G, zA, zB, zC, zD, zE, zF, q45.1, hw, k0, k3, k4, k16, k15]
                         repeat' first | exact .refl _ | exact .nil _ _ _ (by decide) | refine ⟨?_, ?_⟩
           · have ho := ownAt_none hn
             simp only [dcCells, Dc.zero]
             simp -dsimp only [Vm.G, zA, zB, zC, zD, zE, zF, q45.1]
             refine idx_map lnAv l i hlt ?_
             simp only [hx, lnAv, lnCells]
             simp -dsimp only [Vm.G, zA, zB, zC, zD, zE, zF, q45.1, AV.cells]
             have h3 := zIa (decide (x.node < 0))
             rcases h3 with c3 | c3
             · have d3 := of_decide_eq_true c3
               rw [takeOne_neg d3] at hp
               have hp : (g, ([] : List Dl), (7 : Int)) = takeL frm l f [] := hp
               rw [← hp] at hq
               have hq' := (hq h' hR hsm).2 (show (7 : Int) ≠ 0 by decide)
               simp -dsimp only [Vm.G, zA, zB, zC, zD, zE, zF, q45.1, c3]
               exact hq'
             · have d3 := of_decide_eq_false c3
               have c4 : decide (x.node ≥ 0) = true := decide_eq_true (by omega)
               rw [takeOne_out ho d3 (by simp)] at hp
               have hp : (g, ([] : List Dl), (7 : Int)) = takeL frm l f [] := hp
               rw [← hp] at hq
               have hq' := (hq h' hR hsm).2 (show (7 : Int) ≠ 0 by decide)
               simp -dsimp only [Vm.G, zA, zB, zC, zD, zE, zF, q45.1, c3, c4]
               exact hq'
         · have hge : ¬ i < l.length := by have := of_decide_eq_false hcc; omega
           rw [zTa (by omega)] at hp
           have hp : (g, out, (0 : Int)) = takeL frm l f [] := by rw [← hp]; simp only [takeL]
           rw [← hp] at hq
           have hq' := (hq h' hR hsm).1 rfl
           simp -dsimp only [Vm.G, zA, zB, zC, zD, zE, zF, q45.1]
           exact hq'
 · rw [hn] at hq
   have hq' := (hq h hR (.refl _ _)).2 (show (7 : Int) ≠ 0 by decide)
   simp only [dcCells, Dc.zero]
   simp -dsimp only [Vm.G, zA, zB, zC, zD, zE, zF, q45.1]
   exact hq'
theorem mkE_R {frm : Int} {x : Dl} (hx : x.ok) : mkE frm x = mkR (if frm ≠ 0 then -1 else 0) 1 0 x := by
 unfold mkE mkR
 by_cases h : frm ≠ 0
 · rw [if_pos h, if_pos h, Int.one_mul, Int.zero_mul, w64_i64 hx.2.1, Int.neg_mul, Int.one_mul, Int.zero_sub]
   rfl
 · rw [if_neg h, if_neg h, Int.one_mul, Int.zero_mul, w64_i64 hx.2.1]
   rfl
theorem chargeE_R (frm year : Int) (l : List Dl) (f : Fun) (hl : ∀ x ∈ l, x.ok) : chargeG (mkE frm) year l f false = chargeG (mkR (if frm ≠ 0 then -1 else 0) 1 0) year l f false :=
 chargeG_congr year l f false fun x hx => mkE_R (hl x hx)
def rEncNewSpec : Vm.Spec := fun args h Q => ∃ (R : RId) (f : Fun) (year frm : Int) (l : List Ln), I64 year ∧ I64 frm ∧ l.length ≤ 1048576 ∧ (∀ x ∈ l, x.ok) ∧ args = [.ptr R.iv 0, .v (.int .i64 year), .v (.int .i64 frm), .sl 4 (l.map lnAv)] ∧ isRef h R f ∧ f.n ≤ 134217728 ∧
 ∀ h', isRef h' R (encNew f year frm l).1 → Same h h' (rFoot R) → Q (.tup [.v (.int .i64 (encNew f year frm l).2.1), .v (.bool (encNew f year frm l).2.2.1), .v (.int .i64 (encNew f year frm l).2.2.2)]) h'
attribute [local irreducible] takeOf chargeOf chargeG docsPut
theorem does_rEncNew : Does Tryz.prog 14 rEncNewSpec := by
 refine dA (good_cons does_rFirst (good_cons does_rLines (good_cons does_rTake (good_cons does_rChargeL (good_cons does_rDocsPut good_nil))))) Tryz.func14 rfl (by decide +kernel) ?_
 rintro args h Q ⟨R, f, year, frm, l, hy, hfr, hl, hok, rfl, hR, hfn, hq⟩
 refine ⟨by simp [Tryz.f14], ?_⟩
 unfold encNew at hq
 simp -dsimp only [Vm.G, zA, zB, zC, zD, zE, zF, q14.1]
 refine call_one (S := rFirstSpec) rfl _ GaL.rfl ⟨R, f, year, l, by omega, rfl, hR, by omega, ?_⟩
 have hfo : firstOf f year l = if checkY f year ≠ 0 then checkY f year else preCheck l := rfl
 generalize firstOf f year l = e at hfo ⊢
 simp -dsimp only [Vm.G, zA, zB, zC, zD, zE, zF, q14.1]
 by_cases d1 : checkY f year ≠ 0
 · simp only [if_pos d1] at hq hfo
   have c1 : (e != 0) = true := by rw [hfo]; simpa using d1
   rw [← hfo] at hq
   simp -dsimp only [Vm.G, zA, zB, zC, zD, zE, zF, q14.1, c1]
   exact hq h hR (.refl _ _)
 · simp only [if_neg d1] at hq hfo
   by_cases d2 : preCheck l ≠ 0
   · simp only [if_pos d2] at hq
     have c1 : (e != 0) = true := by rw [hfo]; simpa using d2
     rw [← hfo] at hq
     simp -dsimp only [Vm.G, zA, zB, zC, zD, zE, zF, q14.1, c1]
     exact hq h hR (.refl _ _)
   · simp only [if_neg d2] at hq
     have c1 : (e != 0) = false := by rw [hfo]; simpa using d2
     have hl6 := preCheck_len d2
     have hln := linesFrom_n f year frm l
     have hlo := linesFrom_ok f year frm l hok
     have hG := chargeE_R frm year (linesFrom f year frm l).2.1 (linesFrom f year frm l).1 hlo
     have hcn := chargeG_n (mkR (if frm ≠ 0 then -1 else 0) 1 0) year (linesFrom f year frm l).2.1 (linesFrom f year frm l).1 false
     rw [hG] at hq
     clear hG
     have hlf : linesFrom f year frm l = if frm ≠ 0 then takeOf f 1 year frm l else (f, ownL l, 0) := rfl
     simp -dsimp only [Vm.G, zA, zB, zC, zD, zE, zF, q14.1, c1]
     refine call_one (S := linesSpec) rfl _ GaL.rfl ⟨l, by omega, rfl, ?_⟩
     simp -dsimp only [Vm.G, zA, zB, zC, zD, zE, zF, q14.1]
     have h2 := zIa (frm != 0)
     rcases h2 with c2 | c2
     · have d2 : frm ≠ 0 := by simpa using c2
       rw [if_pos d2] at hlf
       rw [hlf] at hq hln hlo hcn
       simp only [if_pos d2] at hq hcn
       simp -dsimp only [Vm.G, zA, zB, zC, zD, zE, zF, q14.1, c2]
       refine call_one (S := rTakeSpec) rfl _ GaL.rfl ⟨R, f, 1, year, frm, l, hfr, hok, hl, rfl, hR, by omega, fun h2 g1 g2 => ?_⟩
       clear hlf
       generalize takeOf f 1 year frm l = q at hq g1 hln hlo hcn ⊢
       rcases q with ⟨qf, qo, qe⟩
       simp only at hq g1 hln hlo hcn
       refine ⟨fun he => ?_, fun he => ?_⟩
       · have he : qe = 0 := he
         subst he
         simp only [ne_eq, not_true_eq_false, if_false] at hq
         simp only
         simp -dsimp only [Vm.G, zA, zB, zC, zD, zE, zF, q14.1, bne_self_eq_false]
         refine call_one (S := rChargeLSpec) rfl _ GaL.rfl ⟨R, qf, year, qo, (-1), 1, 0, by omega, rfl, g1, by omega, fun h3 k1 k2 => ?_⟩
         generalize chargeG (mkR (-1) 1 0) year qo qf false = r at hq k1 hcn ⊢
         rcases r with ⟨rf, rw1, re⟩
         simp only at hq k1 hcn ⊢
         simp -dsimp only [Vm.G, zA, zB, zC, zD, zE, zF, q14.1]
         have h3 := zIa (re != 0)
         rcases h3 with c3 | c3
         · have d3 : re ≠ 0 := by simpa using c3
           simp only [if_pos d3] at hq
           simp -dsimp only [Vm.G, zA, zB, zC, zD, zE, zF, q14.1, c3]
           exact hq _ k1 (g2.trans k2)
         · have d3 : ¬ re ≠ 0 := by simpa using c3
           simp only [if_neg d3] at hq
           have z0 : I64 0 := by unfold I64; omega
           have z2 : I64 2 := by unfold I64; omega
           simp -dsimp only [Vm.G, zA, zB, zC, zD, zE, zF, q14.1, c3]
           refine call_one (S := rDocsPutSpec) rfl _ GaL.rfl ⟨R, rf, ⟨0, 2, year, frm, 0⟩, qo, ⟨z0, z2, hy, hfr, z0⟩, hlo, rfl, k1, by omega, fun h4 m1 m2 => ?_⟩
           have hno := docsPut_no (f := rf) (d := ⟨0, 2, year, frm, 0⟩) (l := qo)
           generalize docsPut rf ⟨0, 2, year, frm, 0⟩ qo = t at hq m1 hno ⊢
           rcases t with ⟨tf, ti, te⟩
           simp only at hq m1 hno ⊢
           have hq' := hq h4 m1 ((g2.trans k2).trans m2)
           simp -dsimp only [Vm.G, zA, zB, zC, zD, zE, zF, q14.1]
           have h5 := zIa (te != 0)
           rcases h5 with c5 | c5
           · have d5 : te ≠ 0 := by simpa using c5
             have e5 : (te == 0) = false := by simpa using d5
             rw [hno d5, e5, zLb] at hq'
             simp -dsimp only [Vm.G, zA, zB, zC, zD, zE, zF, q14.1, c5]
             exact hq'
           · have d5 : te = 0 := by simpa using c5
             subst d5
             rw [beq_self_eq_true, Bool.and_true] at hq'
             simp -dsimp only [Vm.G, zA, zB, zC, zD, zE, zF, q14.1, c5]
             exact hq'
       · have he : qe ≠ 0 := he
         simp only [if_pos he] at hq
         have c4 : (qe != 0) = true := by simpa using he
         simp only
         simp -dsimp only [Vm.G, zA, zB, zC, zD, zE, zF, q14.1, c4]
         exact hq h2 g1 g2
     · have d2 : ¬ frm ≠ 0 := by simpa using c2
       rw [if_neg d2] at hlf
       rw [hlf] at hq hln hlo hcn
       simp only [if_neg d2, ne_eq, not_true_eq_false, if_false] at hq hcn
       simp only at hln hlo
       clear hlf
       have g1 := hR
       have g2 : Same h h (rFoot R) := .refl _ _
       have hqf : ∃ qf, qf = f := ⟨_, rfl⟩
       rcases hqf with ⟨qf, hqf⟩
       have hqn : qf.n = f.n := by rw [hqf]
       rw [← hqf] at g1 hcn hq
       have hqo : ∃ qo, qo = ownL l := ⟨_, rfl⟩
       rcases hqo with ⟨qo, hqo⟩
       rw [← hqo] at hq hln hlo hcn ⊢
       simp -dsimp only [Vm.G, zA, zB, zC, zD, zE, zF, q14.1, c2]
       refine call_one (S := rChargeLSpec) rfl _ GaL.rfl ⟨R, qf, year, qo, 0, 1, 0, by omega, rfl, g1, by omega, fun h3 k1 k2 => ?_⟩
       generalize chargeG (mkR 0 1 0) year qo qf false = r at hq k1 hcn ⊢
       rcases r with ⟨rf, rw1, re⟩
       simp only at hq k1 hcn ⊢
       simp -dsimp only [Vm.G, zA, zB, zC, zD, zE, zF, q14.1]
       have h3 := zIa (re != 0)
       rcases h3 with c3 | c3
       · have d3 : re ≠ 0 := by simpa using c3
         simp only [if_pos d3] at hq
         simp -dsimp only [Vm.G, zA, zB, zC, zD, zE, zF, q14.1, c3]
         exact hq _ k1 (g2.trans k2)
       · have d3 : ¬ re ≠ 0 := by simpa using c3
         simp only [if_neg d3] at hq
         have z0 : I64 0 := by unfold I64; omega
         have z2 : I64 2 := by unfold I64; omega
         simp -dsimp only [Vm.G, zA, zB, zC, zD, zE, zF, q14.1, c3]
         refine call_one (S := rDocsPutSpec) rfl _ GaL.rfl ⟨R, rf, ⟨0, 2, year, frm, 0⟩, qo, ⟨z0, z2, hy, hfr, z0⟩, hlo, rfl, k1, by omega, fun h4 m1 m2 => ?_⟩
         have hno := docsPut_no (f := rf) (d := ⟨0, 2, year, frm, 0⟩) (l := qo)
         generalize docsPut rf ⟨0, 2, year, frm, 0⟩ qo = t at hq m1 hno ⊢
         rcases t with ⟨tf, ti, te⟩
         simp only at hq m1 hno ⊢
         have hq' := hq h4 m1 ((g2.trans k2).trans m2)
         simp -dsimp only [Vm.G, zA, zB, zC, zD, zE, zF, q14.1]
         have h5 := zIa (te != 0)
         rcases h5 with c5 | c5
         · have d5 : te ≠ 0 := by simpa using c5
           have e5 : (te == 0) = false := by simpa using d5
           rw [hno d5, e5, zLb] at hq'
           simp -dsimp only [Vm.G, zA, zB, zC, zD, zE, zF, q14.1, c5]
           exact hq'
         · have d5 : te = 0 := by simpa using c5
           subst d5
           rw [beq_self_eq_true, Bool.and_true] at hq'
           simp -dsimp only [Vm.G, zA, zB, zC, zD, zE, zF, q14.1, c5]
           exact hq'
end Go.Proofs.Lx
namespace Go.Proofs.Lx
open Go.Vm
attribute [local irreducible] awpArr awpBin awpMake awpAppend awpCvX awpStrOf awpBinX awpSlice awpBS awpStore awpAlloc awpCopy awpIndex awpDraw awpIdxX awpFa awpField awpLookup awpUpdate awpDelete awpClear awpRange awpNext awpEntry awpBuild awpClearS awpIdxL awpTree appB awpIdxO eltA treeA
def dlRow (h : Heap) (id : Nat) (l : List Dl) : Prop := ∃ e m, h[id]? = some (.row e m (flat (l.map dlAv)))
theorem dl_cells {l : List Dl} : ∀ x ∈ l.map dlAv, x.cells.length = 4 := fun x hx => by obtain ⟨p, -, rfl⟩ := List.mem_map.1 hx; rfl
theorem dl_elem (l : List Dl) (i : Nat) (hi : i < l.length) : ((flat (l.map dlAv)).drop (i * 4)).take 4 = dlCells l[i] ∧ 4 ≤ ((flat (l.map dlAv)).drop (i * 4)).length := by
 have h := row_elem (sz := 4) (xs := l.map dlAv) (cs := flat (l.map dlAv)) dl_cells (by rw [zMa (by rw [flat_length dl_cells]; exact Nat.le_refl _)]) i (by rw [zJa]; exact hi)
 rw [List.getElem_map] at h
 exact h
theorem dl_fields {l : List Dl} {i : Nat} {x : Dl} (hi : i < l.length) (hx : l[i] = x) :
   ∃ r0 r1, (flat (l.map dlAv)).drop (i * 4) = .v (.int .i64 x.node) :: r0 ∧ (flat (l.map dlAv)).drop (i * 4 + 1) = .v (.int .i64 x.orig) :: r1 := by
 subst hx
 have h := dl_elem l i hi
 have hA : ∃ rest, (flat (l.map dlAv)).drop (i * 4) = dlCells l[i] ++ rest := ⟨((flat (l.map dlAv)).drop (i * 4)).drop 4, by rw [← h.1, List.take_append_drop]⟩
 obtain ⟨rest, hA⟩ := hA
 have h1 : (flat (l.map dlAv)).drop (i * 4 + 1) = ((flat (l.map dlAv)).drop (i * 4)).drop 1 := by rw [List.drop_drop]
 rw [h1, hA]
 exact ⟨_, _, rfl, rfl⟩
theorem flat_dl_cons (y : Dl) (r : List Dl) : flat ((y :: r).map dlAv) = .v (.int .i64 y.node) :: .v (.int .i64 y.orig) :: .v (.int .i64 y.liq) :: .v (.int .i64 y.can) :: flat (r.map dlAv) := by
 simp [flat, dlAv, dlCells, AV.cells]
theorem dl_put : ∀ {L : List Dl} {i : Nat} (hi : i < L.length) (v : Int), putCells (flat (L.map dlAv)) (i * 4 + 2) [.v (.int .i64 v)] = flat ((L.set i { L[i] with liq := v }).map dlAv)
 | y :: r, 0, _, v => by
   rw [List.set_cons_zero, flat_dl_cons, flat_dl_cons]
   simp [putCells]
 | y :: r, i + 1, hi, v => by
   rw [List.set_cons_succ, flat_dl_cons, flat_dl_cons, show (i + 1) * 4 + 2 = (i * 4 + 2) + 1 + 1 + 1 + 1 by omega, put_succ, put_succ, put_succ, put_succ]
   have := dl_put (L := r) (i := i) (by simpa using hi) v
   rw [this]
   simp
def rChargeOSpec : Vm.Spec := fun args h Q => ∃ (R : RId) (f : Fun) (year : Int) (l : List Dl) (p e x : Int) (id c : Nat), l.length ≤ 1048576 ∧ args = [.ptr R.iv 0, .v (.int .i64 year), .osl id 0 l.length c, .v (.int .i64 p), .v (.int .i64 e), .v (.int .i64 x)] ∧ dlRow h id l ∧ id ∉ rFoot R ∧ isRef h R f ∧ f.n ≤ 268435456 ∧
 ∀ h', isRef h' R (chargeG (mkR p e x) year l f false).1 → Same h h' (rFoot R) → Q (.tup [.v (.bool (chargeG (mkR p e x) year l f false).2.1), .v (.int .i64 (chargeG (mkR p e x) year l f false).2.2)]) h'
attribute [local irreducible] chargeOf chargeG
theorem does_rChargeO : Does Tryz.prog 46 rChargeOSpec := by
 refine dA (good_cons does_rCharge good_nil) Tryz.func46 rfl (by decide +kernel) ?_
 rintro args h Q ⟨R, f, year, l, p, e, x, id, c, hl, rfl, ⟨re, rm, hh⟩, hid, hR, hfn, hq⟩
 refine ⟨by simp [Tryz.f46], ?_⟩
 simp -dsimp only [Vm.G, zA, zB, zC, zD, zE, zF, q46.1]
 refine awp_loop (fun m s h' => ∃ (i : Nat) (g : Fun) (w : Bool), i + m = l.length ∧ isRef h' R g ∧ g.n ≤ f.n + 8 * i ∧ Same h h' (rFoot R) ∧ chargeG (mkR p e x) year (l.drop i) g w = chargeG (mkR p e x) year l f false ∧ s = mk [(0, .ptr R.iv 0), (1, .v (.int .i64 year)), (2, .osl id 0 l.length c), (3, .v (.int .i64 p)), (4, .v (.int .i64 e)), (5, .v (.int .i64 x)), (14, .v (.bool w)), (15, .v (.int .i64 (i : Nat)))])
   l.length _ (le_mk _ ?_) ⟨0, f, false, by omega, hR, by omega, .refl _ _, rfl, rfl⟩ ?_
 · simp only [Vm.D]
   try simp -dsimp only [Vm.G, zA, zB, zC, zD, zE, zF, q46.1]
   repeat' first | exact .refl _ | exact .nil _ _ _ (by decide) | refine ⟨?_, ?_⟩
 · clear hR
   rintro m s h' ⟨i, g, w, hi, hR, hgn, hsm, hp, rfl⟩
   simp -dsimp only [Vm.G, zA, zB, zC, zD, zE, zF, q46.1]
   refine cond_intro (fun hcc => ?_) (fun hcc => ?_)
   · have hlt : i < l.length := by have := of_decide_eq_true hcc; omega
     have hw := hwN i (by omega)
     have hxe : ∃ y, l[i] = y := ⟨_, rfl⟩
     rcases hxe with ⟨y, hy⟩
     have hfl := dl_fields hlt hy
     rcases hfl with ⟨rs0, rs1, r1, r3⟩
     rw [zYa hlt, hy] at hp
     have hcn := chargeOf_n g year y.node (mkR p e x y)
     have hg := hsm.get hh hid
     simp -dsimp only [Vm.G, zA, zB, zC, zD, zE, zF, q46.1]
     refine idxL_intro (by omega) (by omega) ?_
     simp -dsimp only [Vm.G, zA, zB, zC, zD, zE, zF, q46.1, hg, zKa, r3]
     refine idxL_intro (by omega) (by omega) ?_
     simp -dsimp only [Vm.G, zA, zB, zC, zD, zE, zF, q46.1, hg, zKa, r1]
     refine call_one (S := rChargeSpec) rfl _ GaL.rfl ⟨R, g, year, y.node, mkR p e x y, rfl, hR, by omega, fun h2 g1 g2 => ?_⟩
     rw [chargeG_cons] at hp
     generalize chargeOf g year y.node (mkR p e x y) = q at hp g1 hcn ⊢
     rcases q with ⟨qf, qw, qe⟩
     simp only at hp g1 hcn ⊢
     simp -dsimp only [Vm.G, zA, zB, zC, zD, zE, zF, q46.1]
     have h1 := zIa (qe != 0)
     rcases h1 with c1 | c1
     · have d1 : qe ≠ 0 := by simpa using c1
       rw [if_pos d1] at hp
       rw [← hp] at hq
       simp -dsimp only [Vm.G, zA, zB, zC, zD, zE, zF, q46.1, c1]
       exact hq h2 g1 (hsm.trans g2)
     · have d1 : ¬ qe ≠ 0 := by simpa using c1
       rw [if_neg d1] at hp
       simp -dsimp only [Vm.G, zA, zB, zC, zD, zE, zF, q46.1, c1]
       cases w
       · simp -dsimp only [Vm.G, zA, zB, zC, zD, zE, zF, q46.1]
         refine kept_intro ⟨l.length - (i + 1), by omega, _, le_mk [(0, .ptr R.iv 0), (1, .v (.int .i64 year)), (2, .osl id 0 l.length c), (3, .v (.int .i64 p)), (4, .v (.int .i64 e)), (5, .v (.int .i64 x)), (14, .v (.bool qw)), (15, .v (.int .i64 (i + 1 : Nat)))] ?_, i + 1, qf, qw, by omega, g1, by omega, hsm.trans g2, by simpa using hp, rfl⟩
         simp only [Vm.D, hw]
         try simp -dsimp only [Vm.G, zA, zB, zC, zD, zE, zF, q46.1, hw]
         repeat' first | exact .refl _ | exact .nil _ _ _ (by decide) | refine ⟨?_, ?_⟩
       · simp -dsimp only [Vm.G, zA, zB, zC, zD, zE, zF, q46.1]
         refine kept_intro ⟨l.length - (i + 1), by omega, _, le_mk [(0, .ptr R.iv 0), (1, .v (.int .i64 year)), (2, .osl id 0 l.length c), (3, .v (.int .i64 p)), (4, .v (.int .i64 e)), (5, .v (.int .i64 x)), (14, .v (.bool true)), (15, .v (.int .i64 (i + 1 : Nat)))] ?_, i + 1, qf, true, by omega, g1, by omega, hsm.trans g2, by simpa using hp, rfl⟩
         simp only [Vm.D, hw]
         try simp -dsimp only [Vm.G, zA, zB, zC, zD, zE, zF, q46.1, hw]
         repeat' first | exact .refl _ | exact .nil _ _ _ (by decide) | refine ⟨?_, ?_⟩
   · have hge : ¬ i < l.length := by have := of_decide_eq_false hcc; omega
     rw [zTa (by omega)] at hp
     have hp : (g, w, (0 : Int)) = chargeG (mkR p e x) year l f false := by rw [← hp]; simp only [chargeG]
     rw [← hp] at hq
     simp -dsimp only [Vm.G, zA, zB, zC, zD, zE, zF, q46.1]
     exact hq h' hR hsm
def rDocsPutOSpec : Vm.Spec := fun args h Q => ∃ (R : RId) (f : Fun) (d : Dc) (l : List Dl) (rid c : Nat), d.ok ∧ (∀ x ∈ l, x.ok) ∧ args = [.ptr R.iv 0, .agg (dcCells d), .osl rid 0 l.length c] ∧ dlRow h rid l ∧ rid ∉ rFoot R ∧ isRef h R f ∧ f.n ≤ 536870900 ∧
 ∀ h', isRef h' R (docsPut f d l).1 → Same h h' (rFoot R) → Q (.tup [.v (.int .i64 (docsPut f d l).2.1), .v (.int .i64 (docsPut f d l).2.2)]) h'
theorem does_rDocsPutO : Does Tryz.prog 47 rDocsPutOSpec := by
 refine dA (good_cons does_rNext (good_cons does_rDl (good_cons does_rSet (good_cons does_rDc good_nil)))) Tryz.func47 rfl (by decide +kernel) ?_
 rintro args h Q ⟨R, f, d, l, rid, c, hd, hx, rfl, ⟨re, rm, hh⟩, hrid, hR, hfn, hq⟩
 refine ⟨by simp [Tryz.f47], ?_⟩
 unfold docsPut at hq
 simp only [dcCells]
 simp -dsimp only [Vm.G, zA, zB, zC, zD, zE, zF, q47.1]
 have hd0 := zIa (decide ((l.length : Int) < 1))
 rcases hd0 with c0 | c0
 · have d0 := of_decide_eq_true c0
   simp only [if_pos (show l.length = 0 ∨ 6 < l.length from .inl (by omega))] at hq
   simp -dsimp only [Vm.G, zA, zB, zC, zD, zE, zF, q47.1, c0]
   exact hq h hR (.refl _ _)
 · have d0 := of_decide_eq_false c0
   have hd6 := zIa (decide ((l.length : Int) > 6))
   rcases hd6 with c6 | c6
   · have d6 := of_decide_eq_true c6
     simp only [if_pos (show l.length = 0 ∨ 6 < l.length from .inr (by omega))] at hq
     simp -dsimp only [Vm.G, zA, zB, zC, zD, zE, zF, q47.1, c0, c6]
     exact hq h hR (.refl _ _)
   · have d6 := of_decide_eq_false c6
     have hr := readOf_range f (seqKey 2)
     simp only [if_neg (show ¬ (l.length = 0 ∨ 6 < l.length) by omega)] at hq
     simp -dsimp only [Vm.G, zA, zB, zC, zD, zE, zF, q47.1, c0, c6]
     refine call_one (S := rNextSpec) rfl _ GaL.rfl ⟨R, f, 2, rfl, hR, by omega, fun hr => ?_, fun hn h1 g1 g2 => ?_⟩
     · simp only [if_pos hr] at hq
       simp -dsimp only [Vm.G, zA, zB, zC, zD, zE, zF, q47.1]
       exact hq h hR (.refl _ _)
     · simp only [if_neg hn] at hq
       unfold docsF at hq
       have hidr : I64 (readOf f (seqKey 2) + 1) := by unfold I64 at hr ⊢; omega
       have hf1 : (upd f (seqKey 2) (some (be 8 (readOf f (seqKey 2) + 1)))).n = f.n + 1 := rfl
       generalize readOf f (seqKey 2) + 1 = id at hq g1 hidr hf1 ⊢
       generalize upd f (seqKey 2) (some (be 8 id)) = f1 at hq g1 hf1
       simp -dsimp only [Vm.G, zA, zB, zC, zD, zE, zF, q47.1]
       refine awp_loop (fun m s h' => ∃ (i : Nat) (g : Fun), i + m = l.length ∧ isRef h' R g ∧ g.n ≤ f.n + 1 + i ∧ Same h h' (rFoot R) ∧ putLines id i (l.drop i) g = putLines id 0 l f1 ∧ s = mk [(0, .ptr R.iv 0), (2, .osl rid 0 l.length c), (4, .box [.v (.int .i64 d.id), .v (.int .i64 d.kind), .v (.int .i64 d.year), .v (.int .i64 d.frm), .v (.int .i64 d.lines)]), (8, .v (.int .i64 id)), (10, .v (.int .i64 (i : Nat)))])
         l.length _ (le_mk _ ?_) ⟨0, f1, by omega, g1, by omega, g2, rfl, rfl⟩ ?_
       · simp only [Vm.D]
         try simp -dsimp only [Vm.G, zA, zB, zC, zD, zE, zF, q47.1]
         repeat' first | exact .refl _ | exact .nil _ _ _ (by decide) | refine ⟨?_, ?_⟩
       · clear g1 g2 hR
         rintro m s h' ⟨i, g, hi, hR, hgn, hsm, hp, rfl⟩
         simp -dsimp only [Vm.G, zA, zB, zC, zD, zE, zF, q47.1]
         refine cond_intro (fun hcc => ?_) (fun hcc => ?_)
         · have hlt : i < l.length := by have := of_decide_eq_true hcc; omega
           have hw := hwN i (by omega)
           have hok := hx l[i] (zRa hlt)
           rw [zYa hlt] at hp
           have hre := dl_elem l i hlt
           rcases hre with ⟨r1, r2⟩
           have hxe : ∃ x, l[i] = x := ⟨_, rfl⟩
           rcases hxe with ⟨x, hxx⟩
           rw [hxx] at hok hp r1
           simp only [dlCells] at r1
           have hg := hsm.get hh hrid
           have hii : I64 (i : Int) := by unfold I64; omega
           have hun : (upd g (dlK id i) (some (dlV x))).n = g.n + 1 := rfl
           simp -dsimp only [Vm.G, zA, zB, zC, zD, zE, zF, q47.1]
           refine idxL_intro (by omega) (by omega) ?_
           simp -dsimp only [Vm.G, zA, zB, zC, zD, zE, zF, q47.1, hg, zKa, r1, r2]
           refine call_one (S := rdlSpec) rfl _ GaL.rfl ⟨id, i, x, hidr, hii, hok, rfl, ?_⟩
           simp -dsimp only [Vm.G, zA, zB, zC, zD, zE, zF, q47.1]
           refine call_one (S := rSetSpec) rfl _ GaL.rfl ⟨R, g, (dlK id i, dlV x), rfl, hR, by omega, fun h2 g1 g2 => ?_⟩
           rw [if_pos (right_dl id i x)] at g1
           simp -dsimp only [Vm.G, zA, zB, zC, zD, zE, zF, q47.1]
           refine kept_intro ⟨l.length - (i + 1), by omega, _, le_mk [(0, .ptr R.iv 0), (2, .osl rid 0 l.length c), (4, .box [.v (.int .i64 d.id), .v (.int .i64 d.kind), .v (.int .i64 d.year), .v (.int .i64 d.frm), .v (.int .i64 d.lines)]), (8, .v (.int .i64 id)), (10, .v (.int .i64 (i + 1 : Nat)))] ?_, i + 1, _, by omega, g1, by show (upd g (dlK id i) (some (dlV x))).n ≤ f.n + 1 + (i + 1); omega, hsm.trans g2, hp, rfl⟩
           simp only [Vm.D, hw]
           try simp -dsimp only [Vm.G, zA, zB, zC, zD, zE, zF, q47.1, hw]
           repeat' first | exact .refl _ | exact .nil _ _ _ (by decide) | refine ⟨?_, ?_⟩
         · have hge : ¬ i < l.length := by have := of_decide_eq_false hcc; omega
           rw [zTa (by omega)] at hp
           have hp : g = putLines id 0 l f1 := hp
           rw [← hp] at hq
           obtain ⟨o1, o2, o3, o4, o5⟩ := hd
           have hdok : ({ d with id := id, lines := (l.length : Int) } : Dc).ok := ⟨hidr, o2, o3, o4, by unfold I64; show -9223372036854775808 ≤ (l.length : Int) ∧ (l.length : Int) ≤ _; omega⟩
           simp -dsimp only [Vm.G, zA, zB, zC, zD, zE, zF, q47.1]
           refine call_one (S := rdcSpec) rfl _ GaL.rfl ⟨{ d with id := id, lines := l.length }, hdok, rfl, ?_⟩
           simp -dsimp only [Vm.G, zA, zB, zC, zD, zE, zF, q47.1]
           refine call_one (S := rSetSpec) rfl _ GaL.rfl ⟨R, g, (dcK id, dcV { d with id := id, lines := l.length }), rfl, hR, by omega, fun h2 g1 g2 => ?_⟩
           rw [if_pos (right_dc id _)] at g1
           simp -dsimp only [Vm.G, zA, zB, zC, zD, zE, zF, q47.1]
           exact hq h2 g1 (hsm.trans g2)
def rxLinesSpec : Vm.Spec := fun args h Q => ∃ (R : RId) (f : Fun) (year : Int) (l : List Dl), l.length ≤ 1048576 ∧ args = [.ptr R.iv 0, .v (.int .i64 year), .sl 4 (l.map dlAv)] ∧ isRef h R f ∧ f.n ≤ 536870912 ∧ Q (.own true 45 4 ((expLines f year l).map lnAv)) h
def rxLinesOSpec : Vm.Spec := fun args h Q => ∃ (R : RId) (f : Fun) (year : Int) (l : List Dl) (id c : Nat), l.length ≤ 1048576 ∧ args = [.ptr R.iv 0, .v (.int .i64 year), .osl id 0 l.length c] ∧ dlRow h id l ∧ isRef h R f ∧ f.n ≤ 536870912 ∧ Q (.own true 45 4 ((expLines f year l).map lnAv)) h
theorem does_rxLines : Does Tryz.prog 19 rxLinesSpec := by
 refine dA (good_cons does_rtGet good_nil) Tryz.func19 rfl (by decide +kernel) ?_
 rintro args h Q ⟨R, f, year, l, hl, rfl, hR, hfn, hq⟩
 refine ⟨by simp [Tryz.f19], ?_⟩
 simp -dsimp only [Vm.G, zA, zB, zC, zD, zE, zF, q19.1]
 refine awp_loop (fun m s h' => ∃ i : Nat, i + m = l.length ∧ h' = h ∧ s = mk [(0, .ptr R.iv 0), (1, .v (.int .i64 year)), (2, .sl 4 (l.map dlAv)), (7, .own true 45 4 ((expLines f year (l.take (i))).map lnAv)), (8, .v (.int .i64 (i : Nat)))])
   l.length _ (le_mk _ ?_) ⟨0, by omega, rfl, rfl⟩ ?_
 · simp only [Vm.D]
   try simp -dsimp only [Vm.G, zA, zB, zC, zD, zE, zF, q19.1]
   repeat' first | exact .refl _ | exact .nil _ _ _ (by decide) | refine ⟨?_, ?_⟩
 · rintro m s h' ⟨i, hi, rfl, rfl⟩
   simp -dsimp only [Vm.G, zA, zB, zC, zD, zE, zF, q19.1]
   refine cond_intro (fun hcc => ?_) (fun hcc => ?_)
   · have hlt : i < l.length := by have := of_decide_eq_true hcc; omega
     have hw := hwN i (by omega)
     have htk := exp_take (f := f) (y := year) hlt
     have hel := exp_len f year (l.take i)
     rw [zUa] at hel
     have hxe : ∃ x, l[i] = x := ⟨_, rfl⟩
     rcases hxe with ⟨x, hx⟩
     rw [hx] at htk
     simp -dsimp only [Vm.G, zA, zB, zC, zD, zE, zF, q19.1]
     refine idx_map dlAv l i hlt ?_
     simp only [hx, dlAv, dlCells]
     simp -dsimp only [Vm.G, zA, zB, zC, zD, zE, zF, q19.1, AV.cells]
     refine call_one (S := rtGetSpec) rfl _ GaL.rfl ⟨R, f, year, x.node, rfl, hR, hfn, fun n hn => ?_, fun hn => ?_⟩
     · have ho : twoL f year x = [⟨n.fund, n.obj, 0, x.orig⟩, ⟨n.fund, 1010, 0, w64 (0 - x.orig)⟩] := by unfold twoL; rw [hn]
       simp only [ndCells]
       simp -dsimp only [Vm.G, zA, zB, zC, zD, zE, zF, q19.1]
       refine draw_cont [9] (.take 0 (.take 1 (.take 2 (.take 3 (.take 4 (.take 5 (.take 6 (.take 7 (.take 8 (.take 9 (.take 11 (.take 12 (.take 13 (.take 14 (.take 15 (.take 16 (.take 17 (.take 18 (.alt 10 (.alt 19 (.alt 20 (.alt 21 (.alt 22 (.done) .stop) .stop) .stop) .stop) (.alt 19 (.alt 10 (.alt 20 (.alt 21 (.alt 22 (.done) .stop) .stop) .stop) .stop) (.stop))))))))))))))))))))) (fun s h2 => h2 = h' ∧ s 0 = .ptr R.iv 0 ∧ s 1 = .v (.int .i64 year) ∧ s 2 = .sl 4 (l.map dlAv) ∧ s 7 = .own true 45 4 ((expLines f year (l.take (i + 1))).map lnAv) ∧ s 8 = .v (.int .i64 (i : Nat))) (by kernel_rfl) (by kernel_rfl) (by kernel_rfl) (by decide) ?_ ?_
       · clear hq
         repeat' first
           | with_reducible exact True.intro
           | (refine idx_map dlAv l i hlt ?_; simp only [hx, dlAv, dlCells])
           | refine bs_intro zr45 (by decide) (by decide) rfl rfl (by simp [solid, AV.cells]) ?_
           | refine app_sl Tryz.underlying33 (by simp [AV.cells]) (by simp only [zJa, zVa, zPa]; omega) ?_
           | simp -dsimp only [Vm.G, zA, zB, zC, zD, zE, zF, q19.1, hx, AV.cells, htk, ho, zQa, zIb, zKb, lnAv, lnCells]
           | refine tree_alt ?_ ?_
           | repeat' first | rfl | exact True.intro | refine And.intro ?_ ?_
       · rintro s h2 ⟨rfl, e0, e1, e2, e7, e8⟩
         simp -dsimp only [Vm.G, zA, zB, zC, zD, zE, zF, q19.1, e0, e1, e2, e7, e8]
         refine kept_intro ⟨l.length - (i + 1), by omega, _, le_mk [(0, .ptr R.iv 0), (1, .v (.int .i64 year)), (2, .sl 4 (l.map dlAv)), (7, .own true 45 4 ((expLines f year (l.take (i + 1))).map lnAv)), (8, .v (.int .i64 (i + 1 : Nat)))] ?_, i + 1, by omega, rfl, rfl⟩
         simp only [Vm.D, hw, e0, e1, e2, e7, e8]
         try simp -dsimp only [Vm.G, zA, zB, zC, zD, zE, zF, q19.1, hw, e0, e1, e2, e7, e8]
         repeat' first | exact .refl _ | exact .nil _ _ _ (by decide) | refine ⟨?_, ?_⟩
     · have ho : twoL f year x = [] := by unfold twoL; rw [hn]
       rw [ho, List.append_nil] at htk
       simp only [ndCells, Nd.zero]
       simp -dsimp only [Vm.G, zA, zB, zC, zD, zE, zF, q19.1]
       refine kept_intro ⟨l.length - (i + 1), by omega, _, le_mk [(0, .ptr R.iv 0), (1, .v (.int .i64 year)), (2, .sl 4 (l.map dlAv)), (7, .own true 45 4 ((expLines f year (l.take (i + 1))).map lnAv)), (8, .v (.int .i64 (i + 1 : Nat)))] ?_, i + 1, by omega, rfl, rfl⟩
       simp only [Vm.D, hw, htk]
       try simp -dsimp only [Vm.G, zA, zB, zC, zD, zE, zF, q19.1, hw, htk]
       repeat' first | exact .refl _ | exact .nil _ _ _ (by decide) | refine ⟨?_, ?_⟩
   · have hge : ¬ i < l.length := by have := of_decide_eq_false hcc; omega
     rw [zMa (by omega)]
     simp -dsimp only [Vm.G, zA, zB, zC, zD, zE, zF, q19.1]
     exact hq
theorem does_rxLinesO : Does Tryz.prog 19 rxLinesOSpec := by
 refine dA (good_cons does_rtGet good_nil) Tryz.func19 rfl (by decide +kernel) ?_
 rintro args h Q ⟨R, f, year, l, id, c, hl, rfl, ⟨re, rm, hh⟩, hR, hfn, hq⟩
 refine ⟨by simp [Tryz.f19], ?_⟩
 simp -dsimp only [Vm.G, zA, zB, zC, zD, zE, zF, q19.1]
 refine awp_loop (fun m s h' => ∃ i : Nat, i + m = l.length ∧ h' = h ∧ s = mk [(0, .ptr R.iv 0), (1, .v (.int .i64 year)), (2, .osl id 0 l.length c), (7, .own true 45 4 ((expLines f year (l.take (i))).map lnAv)), (8, .v (.int .i64 (i : Nat)))])
   l.length _ (le_mk _ ?_) ⟨0, by omega, rfl, rfl⟩ ?_
 · simp only [Vm.D]
   try simp -dsimp only [Vm.G, zA, zB, zC, zD, zE, zF, q19.1]
   repeat' first | exact .refl _ | exact .nil _ _ _ (by decide) | refine ⟨?_, ?_⟩
 · rintro m s h' ⟨i, hi, rfl, rfl⟩
   simp -dsimp only [Vm.G, zA, zB, zC, zD, zE, zF, q19.1]
   refine cond_intro (fun hcc => ?_) (fun hcc => ?_)
   · have hlt : i < l.length := by have := of_decide_eq_true hcc; omega
     have hw := hwN i (by omega)
     have htk := exp_take (f := f) (y := year) hlt
     have hel := exp_len f year (l.take i)
     rw [zUa] at hel
     have hxe : ∃ x, l[i] = x := ⟨_, rfl⟩
     rcases hxe with ⟨x, hx⟩
     rw [hx] at htk
     have hfl := dl_fields hlt hx
     rcases hfl with ⟨rs0, rs1, r1, r3⟩
     simp -dsimp only [Vm.G, zA, zB, zC, zD, zE, zF, q19.1]
     refine idxL_intro (by omega) (by omega) ?_
     simp -dsimp only [Vm.G, zA, zB, zC, zD, zE, zF, q19.1, hh, zKa, r1]
     refine call_one (S := rtGetSpec) rfl _ GaL.rfl ⟨R, f, year, x.node, rfl, hR, hfn, fun n hn => ?_, fun hn => ?_⟩
     · have ho : twoL f year x = [⟨n.fund, n.obj, 0, x.orig⟩, ⟨n.fund, 1010, 0, w64 (0 - x.orig)⟩] := by unfold twoL; rw [hn]
       simp only [ndCells]
       simp -dsimp only [Vm.G, zA, zB, zC, zD, zE, zF, q19.1]
       refine draw_cont [9] (.take 0 (.take 1 (.take 2 (.take 3 (.take 4 (.take 5 (.take 6 (.take 7 (.take 8 (.take 11 (.take 12 (.take 13 (.take 14 (.take 15 (.take 16 (.alt 9 (.alt 10 (.alt 17 (.take 18 (.alt 19 (.alt 20 (.alt 21 (.alt 22 (.done) .stop) .stop) .stop) .stop)) .stop) (.alt 17 (.take 18 (.alt 10 (.alt 19 (.alt 20 (.alt 21 (.alt 22 (.done) .stop) .stop) .stop) .stop) (.alt 19 (.alt 10 (.alt 20 (.alt 21 (.alt 22 (.done) .stop) .stop) .stop) .stop) (.stop)))) (.stop))) (.alt 17 (.take 18 (.alt 9 (.alt 10 (.alt 19 (.alt 20 (.alt 21 (.alt 22 (.done) .stop) .stop) .stop) .stop) (.alt 19 (.alt 10 (.alt 20 (.alt 21 (.alt 22 (.done) .stop) .stop) .stop) .stop) (.stop))) (.alt 19 (.alt 9 (.alt 10 (.alt 20 (.alt 21 (.alt 22 (.done) .stop) .stop) .stop) .stop) .stop) (.stop)))) (.stop)))))))))))))))))) (fun s h2 => h2 = h' ∧ s 0 = .ptr R.iv 0 ∧ s 1 = .v (.int .i64 year) ∧ s 2 = .osl id 0 l.length c ∧ s 7 = .own true 45 4 ((expLines f year (l.take (i + 1))).map lnAv) ∧ s 8 = .v (.int .i64 (i : Nat))) (by kernel_rfl) (by kernel_rfl) (by kernel_rfl) (by decide) ?_ ?_
       · clear hq
         repeat' first
           | with_reducible exact True.intro
           | refine idxL_intro (by omega) (by omega) ?_
           | refine bs_intro zr45 (by decide) (by decide) rfl rfl (by simp [solid, AV.cells]) ?_
           | refine app_sl Tryz.underlying33 (by simp [AV.cells]) (by simp only [zJa, zVa, zPa]; omega) ?_
           | simp -dsimp only [Vm.G, zA, zB, zC, zD, zE, zF, q19.1, hh, zKa, r3, AV.cells, htk, ho, zQa, zIb, zKb, lnAv, lnCells]
           | refine tree_alt ?_ ?_
           | repeat' first | rfl | exact True.intro | refine And.intro ?_ ?_
       · rintro s h2 ⟨rfl, e0, e1, e2, e7, e8⟩
         simp -dsimp only [Vm.G, zA, zB, zC, zD, zE, zF, q19.1, e0, e1, e2, e7, e8]
         refine kept_intro ⟨l.length - (i + 1), by omega, _, le_mk [(0, .ptr R.iv 0), (1, .v (.int .i64 year)), (2, .osl id 0 l.length c), (7, .own true 45 4 ((expLines f year (l.take (i + 1))).map lnAv)), (8, .v (.int .i64 (i + 1 : Nat)))] ?_, i + 1, by omega, rfl, rfl⟩
         simp only [Vm.D, hw, e0, e1, e2, e7, e8]
         try simp -dsimp only [Vm.G, zA, zB, zC, zD, zE, zF, q19.1, hw, e0, e1, e2, e7, e8]
         repeat' first | exact .refl _ | exact .nil _ _ _ (by decide) | refine ⟨?_, ?_⟩
     · have ho : twoL f year x = [] := by unfold twoL; rw [hn]
       rw [ho, List.append_nil] at htk
       simp only [ndCells, Nd.zero]
       simp -dsimp only [Vm.G, zA, zB, zC, zD, zE, zF, q19.1]
       refine kept_intro ⟨l.length - (i + 1), by omega, _, le_mk [(0, .ptr R.iv 0), (1, .v (.int .i64 year)), (2, .osl id 0 l.length c), (7, .own true 45 4 ((expLines f year (l.take (i + 1))).map lnAv)), (8, .v (.int .i64 (i + 1 : Nat)))] ?_, i + 1, by omega, rfl, rfl⟩
       simp only [Vm.D, hw, htk]
       try simp -dsimp only [Vm.G, zA, zB, zC, zD, zE, zF, q19.1, hw, htk]
       repeat' first | exact .refl _ | exact .nil _ _ _ (by decide) | refine ⟨?_, ?_⟩
   · have hge : ¬ i < l.length := by have := of_decide_eq_false hcc; omega
     rw [zMa (by omega)]
     simp -dsimp only [Vm.G, zA, zB, zC, zD, zE, zF, q19.1]
     exact hq
theorem takeL_len (frm : Int) : ∀ (l : List Ln) (f : Fun) (out : List Dl), (takeL frm l f out).2.2 = 0 → (takeL frm l f out).2.1.length = out.length + l.length
 | [], f, out, _ => rfl
 | x :: r, f, out, h => by
   rw [takeL_cons] at h ⊢
   split
   · rename_i hc; rw [if_pos hc] at h; exact absurd h hc
   · rename_i hc
     rw [if_neg hc] at h
     have := takeL_len frm r _ _ h
     rw [zXa, List.length_singleton] at this
     rw [this, zVa]; omega
theorem takeOf_len {f : Fun} {kind year frm : Int} {l : List Ln} (h : (takeOf f kind year frm l).2.2 = 0) : (takeOf f kind year frm l).2.1.length = l.length := by
 unfold takeOf at h ⊢
 split
 · rename_i hd; rw [hd] at h; simp at h
 · rename_i d o hd
   rw [hd] at h
   simp only at h
   split
   · rename_i hc; rw [if_pos hc] at h; simp at h
   · rename_i hc
     rw [if_neg hc] at h
     have := takeL_len frm l f [] h
     simpa using this
theorem preCheck_pos {l : List Ln} (h : ¬ preCheck l ≠ 0) : 1 ≤ l.length := by
 unfold preCheck at h
 split at h
 · simp at h
 · rename_i h2; omega
theorem chargeG_map (mk : Dl → Chg) (g : Dl → Dl) (hg : ∀ x, (g x).node = x.node) (year : Int) : ∀ (l : List Dl) (f : Fun) (w : Bool), chargeG mk year (l.map g) f w = chargeG (fun x => mk (g x)) year l f w
 | [], f, w => by simp only [zKb, chargeG]
 | x :: r, f, w => by
   rw [zIb, chargeG_cons, chargeG_cons, hg x]
   split
   · rfl
   · exact chargeG_map mk g hg year r _ _
theorem mkX_R {frm : Int} {x : Dl} (hx : x.ok) : mkX frm (spent x) = mkR 0 (if frm ≠ 0 then -1 else 0) 1 x := by
 unfold mkX mkR spent
 simp only
 rw [Int.zero_mul, Int.one_mul, w64_i64 hx.2.1]
 by_cases h : frm ≠ 0
 · rw [if_pos h, if_pos h, Int.neg_mul, Int.one_mul, Int.zero_sub]; rfl
 · rw [if_neg h, if_neg h, Int.zero_mul]; rfl
theorem chargeX_R (frm year : Int) (l : List Dl) (f : Fun) (hl : ∀ x ∈ l, x.ok) : chargeG (mkX frm) year (l.map spent) f false = chargeG (mkR 0 (if frm ≠ 0 then -1 else 0) 1) year l f false := by
 rw [chargeG_map (mkX frm) spent (fun _ => rfl)]
 exact chargeG_congr year l f false fun x hx => mkX_R (hl x hx)
theorem spent_ok {l : List Dl} (hl : ∀ x ∈ l, x.ok) : ∀ x ∈ l.map spent, x.ok := fun x hx => by
 obtain ⟨y, hy, rfl⟩ := List.mem_map.1 hx
 have := hl y hy
 exact ⟨this.1, this.2.1, this.2.1, this.2.2.2⟩
theorem linesE_take {f : Fun} {year frm : Int} {l : List Ln} (h : frm ≠ 0) : linesE f year frm l = ((takeOf f 2 year frm l).1, (takeOf f 2 year frm l).2.1.map spent, (takeOf f 2 year frm l).2.2) := by unfold linesE; rw [if_neg h]; rfl
theorem linesE_own {f : Fun} {year frm : Int} {l : List Ln} (h : ¬ frm ≠ 0) : linesE f year frm l = (f, (ownL l).map spent, 0) := by
 unfold linesE
 rw [if_pos (by simpa using h)]
 have : (l.map fun x => (⟨x.node, x.amt, x.amt, 0⟩ : Dl)) = (ownL l).map spent := by unfold ownL; rw [List.map_map]; rfl
 rw [this]
theorem fundsL_len (l : List Ln) : (fundsL l).length ≤ l.length := by
 unfold fundsL
 split
 · rename_i h; exact (Classical.choose_spec h).len
 · exact Nat.zero_le _
theorem entX_n (f : Fun) (y k o : Int) (l : List Ln) : (entX f y k o l).1.n ≤ f.n + 4 * l.length + 2 := by
 have h1 := entry_n f y k o l (l ++ balanceL (fundsL l))
 have h2 := balance_len (fundsL l)
 have h3 := fundsL_len l
 rw [zXa] at h1
 show (entryF f y k o l (l ++ balanceL (fundsL l))).1.n ≤ _
 omega
theorem bookX_n (f : Fun) (year frm : Int) (l : List Dl) : (bookX f year frm l).1.n ≤ f.n + 8 * l.length + 10 := by
 rw [bookX_eq]
 have h1 := docsPut_n f ⟨0, 3, year, frm, 0⟩ l
 have h2 := entX_n (docsPut f ⟨0, 3, year, frm, 0⟩ l).1 year 3 (docsPut f ⟨0, 3, year, frm, 0⟩ l).2.1 (expLines (docsPut f ⟨0, 3, year, frm, 0⟩ l).1 year l)
 have h3 := exp_len (docsPut f ⟨0, 3, year, frm, 0⟩ l).1 year l
 split
 · show (docsPut f ⟨0, 3, year, frm, 0⟩ l).1.n ≤ _; omega
 · split
   · show (entX _ _ _ _ _).1.n ≤ _; omega
   · show (entX _ _ _ _ _).1.n ≤ _; omega
theorem expX_n (f : Fun) (year frm : Int) (l : List Ln) : (expX f year frm l).1.n ≤ f.n + 120 := by
 rw [expX_eq]
 have h1 := linesE_n f year frm l
 have h2 := chargeG_n (mkX frm) year (linesE f year frm l).2.1 (linesE f year frm l).1 false
 have h3 := bookX_n (chargeG (mkX frm) year (linesE f year frm l).2.1 (linesE f year frm l).1 false).1 year frm (linesE f year frm l).2.1
 split
 · exact Nat.le_add_right _ _
 · split
   · exact Nat.le_add_right _ _
   · rename_i hp
     have hl := preCheck_len hp
     split
     · show (linesE f year frm l).1.n ≤ _; omega
     · split
       · show (chargeG _ _ _ _ _).1.n ≤ _; omega
       · show (bookX _ _ _ _).1.n ≤ _; omega
theorem Same.fresh {h h' : Heap} {fp : List Nat} {i : Nat} (hs : Same h h' fp) (hi : h.length ≤ i) (o : AObj) : Same h (h'.set i o) fp :=
 ⟨by rw [List.length_set]; exact hs.1, fun j hj hm => by rw [zLa (by omega)]; exact hs.2 j hj hm⟩
def rExpNewSpec : Vm.Spec := fun args h Q => ∃ (R : RId) (f : Fun) (year frm : Int) (l : List Ln), I64 year ∧ I64 frm ∧ l.length ≤ 1048576 ∧ (∀ x ∈ l, x.ok) ∧ args = [.ptr R.iv 0, .v (.int .i64 year), .v (.int .i64 frm), .sl 4 (l.map lnAv)] ∧ isRef h R f ∧ f.n ≤ 134217728 ∧
 ∀ h', isRef h' R (expX f year frm l).1 → Same h h' (rFoot R) → Q (.tup [.v (.int .i64 (expX f year frm l).2.1), .v (.bool (expX f year frm l).2.2.1), .v (.int .i64 (expX f year frm l).2.2.2)]) h'
attribute [local irreducible] takeOf docsPut linesE entX bookX expLines
theorem does_rExpNew : Does Tryz.prog 16 rExpNewSpec := by
 refine dA (good_cons does_rFirst (good_cons does_rLines (good_cons does_rTake (good_cons does_rChargeO (good_cons does_rDocsPutO (good_cons does_rxLinesO (good_cons does_rEntry good_nil))))))) Tryz.func16 rfl (by decide +kernel) ?_
 rintro args h Q ⟨R, f, year, frm, l, hy, hfr, hl, hok, rfl, hR, hfn, hq⟩
 refine ⟨by simp [Tryz.f16], ?_⟩
 have hx := expX_eq f year frm l
 generalize expX f year frm l = X at hx hq
 simp -dsimp only [Vm.G, zA, zB, zC, zD, zE, zF, q16.1]
 refine call_one (S := rFirstSpec) rfl _ GaL.rfl ⟨R, f, year, l, by omega, rfl, hR, by omega, ?_⟩
 have hfo : firstOf f year l = if checkY f year ≠ 0 then checkY f year else preCheck l := rfl
 generalize firstOf f year l = e at hfo ⊢
 simp -dsimp only [Vm.G, zA, zB, zC, zD, zE, zF, q16.1]
 by_cases d1 : checkY f year ≠ 0
 · rw [if_pos d1] at hx hfo
   have c1 : (e != 0) = true := by rw [hfo]; simpa using d1
   rw [← hfo] at hx
   subst hx
   simp -dsimp only [Vm.G, zA, zB, zC, zD, zE, zF, q16.1, c1]
   exact hq h hR (.refl _ _)
 · rw [if_neg d1] at hx hfo
   by_cases d2 : preCheck l ≠ 0
   · rw [if_pos d2] at hx
     have c1 : (e != 0) = true := by rw [hfo]; simpa using d2
     rw [← hfo] at hx
     subst hx
     simp -dsimp only [Vm.G, zA, zB, zC, zD, zE, zF, q16.1, c1]
     exact hq h hR (.refl _ _)
   · rw [if_neg d2] at hx
     have c1 : (e != 0) = false := by rw [hfo]; simpa using d2
     have hl6 := preCheck_len d2
     have hl1 := preCheck_pos d2
     clear hfo d1 d2
     simp -dsimp only [Vm.G, zA, zB, zC, zD, zE, zF, q16.1, c1]
     refine call_one (S := linesSpec) rfl _ GaL.rfl ⟨l, by omega, rfl, ?_⟩
     simp -dsimp only [Vm.G, zA, zB, zC, zD, zE, zF, q16.1]
     have h2 := zIa (frm != 0)
     rcases h2 with c2 | c2
     · have d2 : frm ≠ 0 := by simpa using c2
       rw [linesE_take d2] at hx
       simp only at hx
       have hlo := takeOf_ok f 2 year frm l hok
       have hln := takeOf_n f 2 year frm l
       have hlen := takeOf_len (f := f) (kind := 2) (year := year) (frm := frm) (l := l)
       have hG := chargeX_R frm year (takeOf f 2 year frm l).2.1 (takeOf f 2 year frm l).1 hlo
       rw [if_pos d2] at hG
       rw [hG] at hx
       clear hG
       have hcn := chargeG_n (mkR 0 (-1) 1) year (takeOf f 2 year frm l).2.1 (takeOf f 2 year frm l).1 false
       simp -dsimp only [Vm.G, zA, zB, zC, zD, zE, zF, q16.1, c2]
       refine call_one (S := rTakeSpec) rfl _ GaL.rfl ⟨R, f, 2, year, frm, l, hfr, hok, hl, rfl, hR, by omega, fun h2 g1 g2 => ?_⟩
       generalize takeOf f 2 year frm l = q at hx g1 hln hlo hcn hlen ⊢
       rcases q with ⟨qf, qo, qe⟩
       simp only at hx g1 hln hlo hcn hlen
       refine ⟨fun he => ?_, fun he => ?_⟩
       · have he : qe = 0 := he
         have hql := hlen he
         subst he
         rw [if_neg (by simp)] at hx
         clear hlen
         simp only
         simp -dsimp only [Vm.G, zA, zB, zC, zD, zE, zF, q16.1, bne_self_eq_false]
         refine call_row _ _ _ 12 48 (.inr rfl) rfl (by intro e; rw [List.map_eq_nil_iff] at e; rw [e] at hql; simp only [zPa] at hql; omega) fun c hc1 hc2 => ?_
         simp -dsimp only [Vm.G, zA, zB, zC, zD, zE, zF, q16.1]
         have hls : ∀ i ∈ [R.iv, R.iw, R.inn, R.it], i < h2.length := by
           obtain ⟨lw, ln, lt, k1, k2, k3, k4, -⟩ := g1
           intro i hi
           simp only [zWa, zNa, or_false] at hi
           rcases hi with rfl | rfl | rfl | rfl
           · exact get_lt k1
           · exact get_lt k2
           · exact get_lt k3
           · exact get_lt k4
         have hidn : h2.length ∉ rFoot R := fun hm => by
           simp only [rFoot, zWa, zNa, or_false] at hm
           rcases hm with e | e
           · have := hls R.inn (by simp); omega
           · have := hls R.it (by simp); omega
         have hidr : ∀ i ∈ [R.iv, R.iw, R.inn, R.it], i ∉ [h2.length] := fun i hi hm => by
           have := hls i hi
           simp only [List.mem_singleton] at hm
           omega
         have hrow : ∃ F, flat (qo.map dlAv) = F := ⟨_, rfl⟩
         rcases hrow with ⟨F, hF⟩
         have hll : (qo.map dlAv).length = qo.length := zJa _
         have g0 := heap_last h2 (AObj.row 47 (c * 4) (flat (qo.map dlAv)))
         have hR3 := g1.same (Same.more h2 [AObj.row 47 (c * 4) (flat (qo.map dlAv))]) (by simp)
         have hsm3 := g2.trans (Same.wide (fp := rFoot R) (Same.more h2 [AObj.row 47 (c * 4) (flat (qo.map dlAv))]))
         have hgel : h.length ≤ h2.length := g2.1
         show callC _ _ _ _ (h2 ++ [AObj.row 47 (c * 4) (flat (qo.map dlAv))]) _ _
         rw [hll] at hc1
         generalize h2 ++ [AObj.row 47 (c * 4) (flat (qo.map dlAv))] = h3 at g0 hR3 hsm3 ⊢
         generalize h2.length = id at g0 hidn hidr hgel hls ⊢
         clear hF F g1 g2
         refine call_one (S := rChargeOSpec) rfl _ GaL.rfl ⟨R, qf, year, qo, 0, (-1), 1, id, c, by omega, rfl, ⟨_, _, g0⟩, hidn, hR3, by omega, fun h4 k1 k2 => ?_⟩
         have g4 := k2.get g0 hidn
         have hsm4 := hsm3.trans k2
         generalize chargeG (mkR 0 (-1) 1) year qo qf false = r at hx k1 hcn ⊢
         rcases r with ⟨rf, rw1, re⟩
         simp only at hx k1 hcn ⊢
         simp -dsimp only [Vm.G, zA, zB, zC, zD, zE, zF, q16.1]
         have h3 := zIa (re != 0)
         rcases h3 with c3 | c3
         · have d3 : re ≠ 0 := by simpa using c3
           rw [if_pos d3] at hx
           subst hx
           simp -dsimp only [Vm.G, zA, zB, zC, zD, zE, zF, q16.1, c3]
           exact hq _ k1 hsm4
         · have d3 : ¬ re ≠ 0 := by simpa using c3
           rw [if_neg d3] at hx
           clear g0 hR3 hsm3 k2
           simp -dsimp only [Vm.G, zA, zB, zC, zD, zE, zF, q16.1, c3]
           refine awp_loop (fun m s h' => ∃ i : Nat, i + m = qo.length ∧ isRef h' R rf ∧ Same h h' (rFoot R) ∧ h'[id]? = some (AObj.row 47 (c * 4) (flat (((qo.take i).map spent ++ qo.drop i).map dlAv))) ∧ s = mk [(0, .ptr R.iv 0), (1, .v (.int .i64 year)), (2, .v (.int .i64 frm)), (12, .osl id 0 qo.length c), (16, .v (.bool rw1)), (18, .v (.int .i64 (i : Nat)))])
             qo.length _ (le_mk _ ?_) ⟨0, by omega, k1, hsm4, by simpa using g4, rfl⟩ ?_
           · simp only [Vm.D]
             try simp -dsimp only [Vm.G, zA, zB, zC, zD, zE, zF, q16.1]
             repeat' first | exact .refl _ | exact .nil _ _ _ (by decide) | refine ⟨?_, ?_⟩
           · clear k1 hsm4 g4
             rintro m s h5 ⟨i, hi, hR5, hsm5, g5, rfl⟩
             simp -dsimp only [Vm.G, zA, zB, zC, zD, zE, zF, q16.1]
             refine cond_intro (fun hcc => ?_) (fun hcc => ?_)
             · have hlt : i < qo.length := by have := of_decide_eq_true hcc; omega
               have hw := hwN i (by omega)
               have hset := spent_set hlt
               have hLl : ((qo.take i).map spent ++ qo.drop i).length = qo.length := by rw [zXa, zJa, zUa, List.length_drop]; omega
               have hLi : i < ((qo.take i).map spent ++ qo.drop i).length := by omega
               have hgx : ((qo.take i).map spent ++ qo.drop i)[i] = qo[i] := by
                 have := spent_get hlt
                 rw [List.getElem?_eq_getElem hLi] at this
                 exact Option.some.inj this
               have hput := dl_put hLi qo[i].orig
               rw [hgx] at hput
               have hput : putCells (flat (((qo.take i).map spent ++ qo.drop i).map dlAv)) (i * 4 + 2) [.v (.int .i64 qo[i].orig)] = flat ((((qo.take i).map spent ++ qo.drop i).set i (spent qo[i])).map dlAv) := hput
               rw [hset] at hput
               have hfl := dl_fields hLi hgx
               rcases hfl with ⟨rs0, rs1, r1, r3⟩
               have hel : (flat (((qo.take i).map spent ++ qo.drop i).map dlAv)).length = qo.length * 4 := by rw [flat_length dl_cells, zJa, hLl]
               generalize qo[i] = x at hput r3
               generalize (qo.take i).map spent ++ qo.drop i = L at hput r3 hel g5 hLl
               clear r1 hset hgx
               simp -dsimp only [Vm.G, zA, zB, zC, zD, zE, zF, q16.1]
               refine idxL_intro (by omega) (by omega) ?_
               simp -dsimp only [Vm.G, zA, zB, zC, zD, zE, zF, q16.1, g5, zKa, r3]
               refine idxL_intro (by omega) (by omega) ?_
               simp -dsimp only [Vm.E, zA, zB, zC, zD, zE, zG, zH, q16.1, zKa]
               refine store_row _ g5 ?_ ?_ ?_ ?_
               · rfl
               · rfl
               · rw [hel]; omega
               simp -dsimp only [Vm.G, zA, zB, zC, zD, zE, zF, q16.1, hput, AV.cells]
               refine kept_intro ⟨qo.length - (i + 1), by omega, _, le_mk [(0, .ptr R.iv 0), (1, .v (.int .i64 year)), (2, .v (.int .i64 frm)), (12, .osl id 0 qo.length c), (16, .v (.bool rw1)), (18, .v (.int .i64 (i + 1 : Nat)))] ?_, i + 1, by omega, hR5.same (Same.set h5 id _) hidr, hsm5.fresh hgel _, zJb (get_lt g5), rfl⟩
               simp only [Vm.D, hw]
               try simp -dsimp only [Vm.G, zA, zB, zC, zD, zE, zF, q16.1, hw]
               repeat' first | exact .refl _ | exact .nil _ _ _ (by decide) | refine ⟨?_, ?_⟩
             · have hge : ¬ i < qo.length := by have := of_decide_eq_false hcc; omega
               rw [zMa (by omega), zTa (by omega), List.append_nil] at g5
               have hso := spent_ok hlo
               have hsl : (qo.map spent).length = qo.length := zJa _
               have z0 : I64 0 := by unfold I64; omega
               have z3 : I64 3 := by unfold I64; omega
               rw [← hsl]
               generalize qo.map spent = L at hx hso hsl g5 ⊢
               clear hcc hge hi
               simp -dsimp only [Vm.G, zA, zB, zC, zD, zE, zF, q16.1]
               refine call_one (S := rDocsPutOSpec) rfl _ GaL.rfl ⟨R, rf, ⟨0, 3, year, frm, 0⟩, L, id, c, ⟨z0, z3, hy, hfr, z0⟩, hso, rfl, ⟨_, _, g5⟩, hidn, hR5, by omega, fun h6 m1 m2 => ?_⟩
               have g6 := m2.get g5 hidn
               have hsm6 := hsm5.trans m2
               have hdn := docsPut_n rf ⟨0, 3, year, frm, 0⟩ L
               have hdi := docsPut_id rf ⟨0, 3, year, frm, 0⟩ L
               have hbx := bookX_eq rf year frm L
               generalize bookX rf year frm L = bx at hx hbx
               generalize docsPut rf ⟨0, 3, year, frm, 0⟩ L = t at hbx m1 hdn hdi ⊢
               rcases t with ⟨tf, ti, te⟩
               simp only at hbx m1 hdn hdi ⊢
               simp -dsimp only [Vm.G, zA, zB, zC, zD, zE, zF, q16.1]
               have h5 := zIa (te != 0)
               rcases h5 with c5 | c5
               · have d5 : te ≠ 0 := by simpa using c5
                 rw [if_pos d5] at hbx
                 subst hbx
                 have e5 : (te == 0) = false := by simpa using d5
                 simp only [e5, zLb] at hx
                 subst hx
                 simp -dsimp only [Vm.G, zA, zB, zC, zD, zE, zF, q16.1, c5]
                 exact hq _ m1 hsm6
               · have d5 : ¬ te ≠ 0 := by simpa using c5
                 rw [if_neg d5] at hbx
                 have hel := exp_len tf year L
                 have heo := exp_ok (f := tf) (y := year) hso
                 simp -dsimp only [Vm.G, zA, zB, zC, zD, zE, zF, q16.1, c5]
                 refine call_one (S := rxLinesOSpec) rfl _ GaL.rfl ⟨R, tf, year, L, id, c, by omega, rfl, ⟨_, _, g6⟩, m1, by omega, ?_⟩
                 simp -dsimp only [Vm.G, zA, zB, zC, zD, zE, zF, q16.1]
                 refine call_one (S := rEntrySpec) rfl _ GaL.rfl ⟨R, tf, ⟨0, year, 3, 0, ti, 0⟩, expLines tf year L, ⟨z0, hy, z3, z0, hdi, z0⟩, heo, by omega, rfl, m1, by omega, fun h7 p1 p2 => ?_⟩
                 simp only at p1 ⊢
                 have hsm7 := hsm6.trans p2
                 generalize entX tf year 3 ti (expLines tf year L) = u at hbx p1 ⊢
                 rcases u with ⟨uf, ui, ue⟩
                 simp only at hbx p1 ⊢
                 simp -dsimp only [Vm.G, zA, zB, zC, zD, zE, zF, q16.1]
                 have h8 := zIa (ue != 0)
                 rcases h8 with c8 | c8
                 · have d8 : ue ≠ 0 := by simpa using c8
                   rw [if_pos d8] at hbx
                   subst hbx
                   have e8 : (ue == 0) = false := by simpa using d8
                   simp only [e8, zLb] at hx
                   subst hx
                   simp -dsimp only [Vm.G, zA, zB, zC, zD, zE, zF, q16.1, c8]
                   exact hq _ p1 hsm7
                 · have d8 : ¬ ue ≠ 0 := by simpa using c8
                   rw [if_neg d8] at hbx
                   subst hbx
                   simp only [beq_self_eq_true, Bool.and_true] at hx
                   subst hx
                   simp -dsimp only [Vm.G, zA, zB, zC, zD, zE, zF, q16.1, c8]
                   exact hq _ p1 hsm7
       · have he : qe ≠ 0 := he
         rw [if_pos he] at hx
         subst hx
         have c4 : (qe != 0) = true := by simpa using he
         simp only
         simp -dsimp only [Vm.G, zA, zB, zC, zD, zE, zF, q16.1, c4]
         exact hq h2 g1 g2
     · have d2 : ¬ frm ≠ 0 := by simpa using c2
       rw [linesE_own d2] at hx
       simp only at hx
       rw [if_neg (by simp)] at hx
       have hlo := ownL_ok hok
       have hql := ownL_length l
       have hG := chargeX_R frm year (ownL l) f hlo
       rw [if_neg d2] at hG
       rw [hG] at hx
       clear hG
       have hcn := chargeG_n (mkR 0 0 1) year (ownL l) f false
       have g1 := hR
       have g2 : Same h h (rFoot R) := .refl _ _
       have hh2 : ∃ h2, h2 = h := ⟨_, rfl⟩
       rcases hh2 with ⟨h2, hh2⟩
       have hqf : ∃ qf, qf = f := ⟨_, rfl⟩
       rcases hqf with ⟨qf, hqf⟩
       have hln : qf.n = f.n := by rw [hqf]
       rw [← hqf] at g1 hcn hx
       have hqo : ∃ qo, qo = ownL l := ⟨_, rfl⟩
       rcases hqo with ⟨qo, hqo⟩
       rw [← hqo] at hx hlo hcn hql ⊢
       simp -dsimp only [Vm.G, zA, zB, zC, zD, zE, zF, q16.1, c2]
       rw [← hh2] at g1 ⊢
       have g2 : Same h h2 (rFoot R) := by rw [hh2]; exact .refl _ _
       clear hh2
       refine call_row _ _ _ 12 48 (.inr rfl) rfl (by intro e; rw [List.map_eq_nil_iff] at e; rw [e] at hql; simp only [zPa] at hql; omega) fun c hc1 hc2 => ?_
       simp -dsimp only [Vm.G, zA, zB, zC, zD, zE, zF, q16.1]
       have hls : ∀ i ∈ [R.iv, R.iw, R.inn, R.it], i < h2.length := by
         obtain ⟨lw, ln, lt, k1, k2, k3, k4, -⟩ := g1
         intro i hi
         simp only [zWa, zNa, or_false] at hi
         rcases hi with rfl | rfl | rfl | rfl
         · exact get_lt k1
         · exact get_lt k2
         · exact get_lt k3
         · exact get_lt k4
       have hidn : h2.length ∉ rFoot R := fun hm => by
         simp only [rFoot, zWa, zNa, or_false] at hm
         rcases hm with e | e
         · have := hls R.inn (by simp); omega
         · have := hls R.it (by simp); omega
       have hidr : ∀ i ∈ [R.iv, R.iw, R.inn, R.it], i ∉ [h2.length] := fun i hi hm => by
         have := hls i hi
         simp only [List.mem_singleton] at hm
         omega
       have hrow : ∃ F, flat (qo.map dlAv) = F := ⟨_, rfl⟩
       rcases hrow with ⟨F, hF⟩
       have hll : (qo.map dlAv).length = qo.length := zJa _
       have g0 := heap_last h2 (AObj.row 47 (c * 4) (flat (qo.map dlAv)))
       have hR3 := g1.same (Same.more h2 [AObj.row 47 (c * 4) (flat (qo.map dlAv))]) (by simp)
       have hsm3 := g2.trans (Same.wide (fp := rFoot R) (Same.more h2 [AObj.row 47 (c * 4) (flat (qo.map dlAv))]))
       have hgel : h.length ≤ h2.length := g2.1
       show callC _ _ _ _ (h2 ++ [AObj.row 47 (c * 4) (flat (qo.map dlAv))]) _ _
       rw [hll] at hc1
       generalize h2 ++ [AObj.row 47 (c * 4) (flat (qo.map dlAv))] = h3 at g0 hR3 hsm3 ⊢
       generalize h2.length = id at g0 hidn hidr hgel hls ⊢
       clear hF F g1 g2
       refine call_one (S := rChargeOSpec) rfl _ GaL.rfl ⟨R, qf, year, qo, 0, 0, 1, id, c, by omega, rfl, ⟨_, _, g0⟩, hidn, hR3, by omega, fun h4 k1 k2 => ?_⟩
       have g4 := k2.get g0 hidn
       have hsm4 := hsm3.trans k2
       generalize chargeG (mkR 0 0 1) year qo qf false = r at hx k1 hcn ⊢
       rcases r with ⟨rf, rw1, re⟩
       simp only at hx k1 hcn ⊢
       simp -dsimp only [Vm.G, zA, zB, zC, zD, zE, zF, q16.1]
       have h3 := zIa (re != 0)
       rcases h3 with c3 | c3
       · have d3 : re ≠ 0 := by simpa using c3
         rw [if_pos d3] at hx
         subst hx
         simp -dsimp only [Vm.G, zA, zB, zC, zD, zE, zF, q16.1, c3]
         exact hq _ k1 hsm4
       · have d3 : ¬ re ≠ 0 := by simpa using c3
         rw [if_neg d3] at hx
         clear g0 hR3 hsm3 k2
         simp -dsimp only [Vm.G, zA, zB, zC, zD, zE, zF, q16.1, c3]
         refine awp_loop (fun m s h' => ∃ i : Nat, i + m = qo.length ∧ isRef h' R rf ∧ Same h h' (rFoot R) ∧ h'[id]? = some (AObj.row 47 (c * 4) (flat (((qo.take i).map spent ++ qo.drop i).map dlAv))) ∧ s = mk [(0, .ptr R.iv 0), (1, .v (.int .i64 year)), (2, .v (.int .i64 frm)), (12, .osl id 0 qo.length c), (16, .v (.bool rw1)), (18, .v (.int .i64 (i : Nat)))])
           qo.length _ (le_mk _ ?_) ⟨0, by omega, k1, hsm4, by simpa using g4, rfl⟩ ?_
         · simp only [Vm.D]
           try simp -dsimp only [Vm.G, zA, zB, zC, zD, zE, zF, q16.1]
           repeat' first | exact .refl _ | exact .nil _ _ _ (by decide) | refine ⟨?_, ?_⟩
         · clear k1 hsm4 g4
           rintro m s h5 ⟨i, hi, hR5, hsm5, g5, rfl⟩
           simp -dsimp only [Vm.G, zA, zB, zC, zD, zE, zF, q16.1]
           refine cond_intro (fun hcc => ?_) (fun hcc => ?_)
           · have hlt : i < qo.length := by have := of_decide_eq_true hcc; omega
             have hw := hwN i (by omega)
             have hset := spent_set hlt
             have hLl : ((qo.take i).map spent ++ qo.drop i).length = qo.length := by rw [zXa, zJa, zUa, List.length_drop]; omega
             have hLi : i < ((qo.take i).map spent ++ qo.drop i).length := by omega
             have hgx : ((qo.take i).map spent ++ qo.drop i)[i] = qo[i] := by
               have := spent_get hlt
               rw [List.getElem?_eq_getElem hLi] at this
               exact Option.some.inj this
             have hput := dl_put hLi qo[i].orig
             rw [hgx] at hput
             have hput : putCells (flat (((qo.take i).map spent ++ qo.drop i).map dlAv)) (i * 4 + 2) [.v (.int .i64 qo[i].orig)] = flat ((((qo.take i).map spent ++ qo.drop i).set i (spent qo[i])).map dlAv) := hput
             rw [hset] at hput
             have hfl := dl_fields hLi hgx
             rcases hfl with ⟨rs0, rs1, r1, r3⟩
             have hel : (flat (((qo.take i).map spent ++ qo.drop i).map dlAv)).length = qo.length * 4 := by rw [flat_length dl_cells, zJa, hLl]
             generalize qo[i] = x at hput r3
             generalize (qo.take i).map spent ++ qo.drop i = L at hput r3 hel g5 hLl
             clear r1 hset hgx
             simp -dsimp only [Vm.G, zA, zB, zC, zD, zE, zF, q16.1]
             refine idxL_intro (by omega) (by omega) ?_
             simp -dsimp only [Vm.G, zA, zB, zC, zD, zE, zF, q16.1, g5, zKa, r3]
             refine idxL_intro (by omega) (by omega) ?_
             simp -dsimp only [Vm.E, zA, zB, zC, zD, zE, zG, zH, q16.1, zKa]
             refine store_row _ g5 ?_ ?_ ?_ ?_
             · rfl
             · rfl
             · rw [hel]; omega
             simp -dsimp only [Vm.G, zA, zB, zC, zD, zE, zF, q16.1, hput, AV.cells]
             refine kept_intro ⟨qo.length - (i + 1), by omega, _, le_mk [(0, .ptr R.iv 0), (1, .v (.int .i64 year)), (2, .v (.int .i64 frm)), (12, .osl id 0 qo.length c), (16, .v (.bool rw1)), (18, .v (.int .i64 (i + 1 : Nat)))] ?_, i + 1, by omega, hR5.same (Same.set h5 id _) hidr, hsm5.fresh hgel _, zJb (get_lt g5), rfl⟩
             simp only [Vm.D, hw]
             try simp -dsimp only [Vm.G, zA, zB, zC, zD, zE, zF, q16.1, hw]
             repeat' first | exact .refl _ | exact .nil _ _ _ (by decide) | refine ⟨?_, ?_⟩
           · have hge : ¬ i < qo.length := by have := of_decide_eq_false hcc; omega
             rw [zMa (by omega), zTa (by omega), List.append_nil] at g5
             have hso := spent_ok hlo
             have hsl : (qo.map spent).length = qo.length := zJa _
             have z0 : I64 0 := by unfold I64; omega
             have z3 : I64 3 := by unfold I64; omega
             rw [← hsl]
             generalize qo.map spent = L at hx hso hsl g5 ⊢
             clear hcc hge hi
             simp -dsimp only [Vm.G, zA, zB, zC, zD, zE, zF, q16.1]
             refine call_one (S := rDocsPutOSpec) rfl _ GaL.rfl ⟨R, rf, ⟨0, 3, year, frm, 0⟩, L, id, c, ⟨z0, z3, hy, hfr, z0⟩, hso, rfl, ⟨_, _, g5⟩, hidn, hR5, by omega, fun h6 m1 m2 => ?_⟩
             have g6 := m2.get g5 hidn
             have hsm6 := hsm5.trans m2
             have hdn := docsPut_n rf ⟨0, 3, year, frm, 0⟩ L
             have hdi := docsPut_id rf ⟨0, 3, year, frm, 0⟩ L
             have hbx := bookX_eq rf year frm L
             generalize bookX rf year frm L = bx at hx hbx
             generalize docsPut rf ⟨0, 3, year, frm, 0⟩ L = t at hbx m1 hdn hdi ⊢
             rcases t with ⟨tf, ti, te⟩
             simp only at hbx m1 hdn hdi ⊢
             simp -dsimp only [Vm.G, zA, zB, zC, zD, zE, zF, q16.1]
             have h5 := zIa (te != 0)
             rcases h5 with c5 | c5
             · have d5 : te ≠ 0 := by simpa using c5
               rw [if_pos d5] at hbx
               subst hbx
               have e5 : (te == 0) = false := by simpa using d5
               simp only [e5, zLb] at hx
               subst hx
               simp -dsimp only [Vm.G, zA, zB, zC, zD, zE, zF, q16.1, c5]
               exact hq _ m1 hsm6
             · have d5 : ¬ te ≠ 0 := by simpa using c5
               rw [if_neg d5] at hbx
               have hel := exp_len tf year L
               have heo := exp_ok (f := tf) (y := year) hso
               simp -dsimp only [Vm.G, zA, zB, zC, zD, zE, zF, q16.1, c5]
               refine call_one (S := rxLinesOSpec) rfl _ GaL.rfl ⟨R, tf, year, L, id, c, by omega, rfl, ⟨_, _, g6⟩, m1, by omega, ?_⟩
               simp -dsimp only [Vm.G, zA, zB, zC, zD, zE, zF, q16.1]
               refine call_one (S := rEntrySpec) rfl _ GaL.rfl ⟨R, tf, ⟨0, year, 3, 0, ti, 0⟩, expLines tf year L, ⟨z0, hy, z3, z0, hdi, z0⟩, heo, by omega, rfl, m1, by omega, fun h7 p1 p2 => ?_⟩
               simp only at p1 ⊢
               have hsm7 := hsm6.trans p2
               generalize entX tf year 3 ti (expLines tf year L) = u at hbx p1 ⊢
               rcases u with ⟨uf, ui, ue⟩
               simp only at hbx p1 ⊢
               simp -dsimp only [Vm.G, zA, zB, zC, zD, zE, zF, q16.1]
               have h8 := zIa (ue != 0)
               rcases h8 with c8 | c8
               · have d8 : ue ≠ 0 := by simpa using c8
                 rw [if_pos d8] at hbx
                 subst hbx
                 have e8 : (ue == 0) = false := by simpa using d8
                 simp only [e8, zLb] at hx
                 subst hx
                 simp -dsimp only [Vm.G, zA, zB, zC, zD, zE, zF, q16.1, c8]
                 exact hq _ p1 hsm7
               · have d8 : ¬ ue ≠ 0 := by simpa using c8
                 rw [if_neg d8] at hbx
                 subst hbx
                 simp only [beq_self_eq_true, Bool.and_true] at hx
                 subst hx
                 simp -dsimp only [Vm.G, zA, zB, zC, zD, zE, zF, q16.1, c8]
                 exact hq _ p1 hsm7
end Go.Proofs.Lx
namespace Go.Proofs.Lx
open Go.Vm
attribute [local irreducible] awpArr awpBin awpMake awpAppend awpCvX awpStrOf awpBinX awpSlice awpBS awpStore awpAlloc awpCopy awpIndex awpDraw awpIdxX awpFa awpField awpLookup awpUpdate awpDelete awpClear awpRange awpNext awpEntry awpBuild awpClearS awpIdxL awpTree appB awpIdxO eltA treeA
theorem does_end33 : Does Tryz.prog 15 endSpec := by
 refine dA (good_cons does_commit (good_cons does_rCom (good_cons does_abort (good_cons does_rAb (good_cons does_sames good_nil))))) Tryz.func15 rfl (by decide +kernel) ?_
 rintro args h Q ⟨V, R, f, g, e, rfl, hB, hfn, hgn, hq⟩
 refine ⟨by simp [Tryz.f15], ?_⟩
 unfold turnF at hq
 simp -dsimp only [Vm.G, zA, zB, zC, zD, zE, zF, q15.1]
 have h0 := zIa (e == 0)
 rcases h0 with c | c
 · rw [if_pos (by simpa using c)] at hq
   simp -dsimp only [Vm.G, zA, zB, zC, zD, zE, zF, q15.1, c]
   refine call_one (S := commitSpec) rfl _ GaL.rfl ⟨V, f, rfl, hB.1.1, hfn, fun h1 g1 g2 g3 => ?_⟩
   have hR1 : isRef h1 R f := hB.1.2.1.same g3 fun i hi hm => by
     simp only [zWa, zNa, or_false] at hm
     rcases hm with rfl | rfl
     · exact hB.1.2.2 V.ic (by simp) hi
     · exact hB.1.2.2 V.im (by simp) hi
   simp -dsimp only [Vm.G, zA, zB, zC, zD, zE, zF, q15.1]
   refine call_one (S := rComSpec) rfl _ GaL.rfl ⟨R, f, rfl, hR1, fun h2 k1 k2 k3 => ?_⟩
   have hB2 := both_turn hB.1 g1 g3 k1 k3 g2 k2 (.inl rfl)
   simp -dsimp only [Vm.G, zA, zB, zC, zD, zE, zF, q15.1]
   refine call_one (S := samesSpec) rfl _ GaL.rfl ⟨V, rComId R h1, f, rfl, hB2.1, hfn, fun h3 hB3 hs3 => ?_⟩
   simp -dsimp only [Vm.G, zA, zB, zC, zD, zE, zF, q15.1]
   exact hq (rComId R h1) h3 rfl (Both.quietB hB2 hB3 hs3)
 · rw [if_neg (by simpa using c)] at hq
   simp -dsimp only [Vm.G, zA, zB, zC, zD, zE, zF, q15.1, c]
   refine call_one (S := abortSpec) rfl _ GaL.rfl ⟨V, f, g, rfl, hB.1.1, hB.2.1, fun h1 g1 g2 g3 => ?_⟩
   have hd : ∀ i ∈ [R.iv, R.iw, R.inn, R.it], i ∉ [V.ic] := fun i hi hm => by
     simp only [zWa, zNa, or_false] at hm
     subst hm
     exact hB.1.2.2 V.ic (by simp) hi
   have hR1 : isRef h1 R f := hB.1.2.1.same g3 hd
   have hW1 : wasR h1 R g := hB.2.2.same g3 (hd _ (by simp))
   have g3' : Same h h1 [V.ic, V.im] := ⟨g3.1, fun i hi hm => g3.2 i hi (by simp at hm ⊢; exact hm.1)⟩
   simp -dsimp only [Vm.G, zA, zB, zC, zD, zE, zF, q15.1]
   refine call_one (S := rAbSpec) rfl _ GaL.rfl ⟨R, f, g, rfl, hR1, hW1, fun h2 k1 k2 k3 => ?_⟩
   have hB2 := both_turn hB.1 g1 g3' k1 k3 g2 k2 (.inr rfl)
   simp -dsimp only [Vm.G, zA, zB, zC, zD, zE, zF, q15.1]
   refine call_one (S := samesSpec) rfl _ GaL.rfl ⟨V, rAbId R h1, g, rfl, hB2.1, hgn, fun h3 hB3 hs3 => ?_⟩
   simp -dsimp only [Vm.G, zA, zB, zC, zD, zE, zF, q15.1]
   exact hq (rAbId R h1) h3 rfl (Both.quietB hB2 hB3 hs3)
theorem does_begunW33 : Does Tryz.prog 8 begunWSpec := by
 refine dA (good_cons does_vnewW (good_cons does_rNewW (good_cons does_yOpen (good_cons does_rOpen (good_cons does_tput (good_cons does_rtPut good_nil)))))) Tryz.func8 rfl (by decide +kernel) ?_
 rintro args h Q ⟨l, hl, hok, rfl, hq⟩
 refine ⟨by simp [Tryz.f8], ?_⟩
 simp -dsimp only [Vm.G, zA, zB, zC, zD, zE, zF, q8.1]
 refine call_one (S := vnewWSpec) rfl _ GaL.rfl ⟨rfl, fun V h00 hV00 hm00 => ?_⟩
 simp -dsimp only [Vm.G, zA, zB, zC, zD, zE, zF, q8.1]
 refine call_one (S := rNewWSpec) rfl _ (.cons (.nil 2) .nil) ⟨V, rfl, hV00, hm00, fun R h0 hB0 => ?_⟩
 clear hV00 hm00
 simp -dsimp only [Vm.G, zA, zB, zC, zD, zE, zF, q8.1]
 refine call_one (S := yOpenSpec) rfl _ GaL.rfl ⟨V, noF, 2020, rfl, hB0.1.1, fun h1 g1 g2 => ?_⟩
 simp -dsimp only [Vm.G, zA, zB, zC, zD, zE, zF, q8.1]
 refine call_one (S := rOpenSpec) rfl _ GaL.rfl ⟨R, noF, 2020, rfl, hB0.1.view g1 g2, by decide, fun h2 g3 g4 => ?_⟩
 have hB1 := hB0.step g1 g2 g3 g4
 clear hB0 g1 g2 g3 g4
 simp -dsimp only [Vm.G, zA, zB, zC, zD, zE, zF, q8.1]
 refine awp_loop (fun m s h' => ∃ i : Nat, i + m = l.length ∧ BothW h' V R (begunF (l.take i)) noF ∧ s = mk [(4, .ptr V.iv 0), (5, .ptr R.iv 0), (14, .sl 12 (l.map ndAv)), (15, .v (.int .i64 l.length)), (16, .v (.int .i64 (i : Nat)))])
   l.length _ (le_mk _ ?_) ⟨0, by omega, hB1, rfl⟩ ?_
 · simp only [Vm.D]
   try simp -dsimp only [Vm.G, zA, zB, zC, zD, zE, zF, q8.1]
   repeat' first | exact .refl _ | exact .nil _ _ _ (by decide) | refine ⟨?_, ?_⟩
 · clear hB1
   rintro m s h' ⟨i, hi, hB, rfl⟩
   simp -dsimp only [Vm.G, zA, zB, zC, zD, zE, zF, q8.1]
   refine cond_intro (fun hcc => ?_) (fun hcc => ?_)
   · have hlt : i < l.length := by have := of_decide_eq_true hcc; omega
     have hw := hwN i (by omega)
     have hfn := begunF_n (l.take i)
     have htl : (l.take i).length ≤ i := by rw [zUa]; omega
     have est : begunF (l.take (i + 1)) = putN (begunF (l.take i)) l[i] := by
       unfold begunF
       rw [List.take_succ_eq_append_getElem hlt, List.foldl_append]; rfl
     have ho := hok l[i] (zRa hlt)
     simp -dsimp only [Vm.G, zA, zB, zC, zD, zE, zF, q8.1]
     refine idx_map ndAv l i hlt ?_
     generalize l[i] = n at est ho
     have hok2 : (yr20 n).ok := ⟨by show I64 2020; unfold I64; omega, ho.2⟩
     simp only [ndAv, ndCells]
     simp -dsimp only [Vm.G, zA, zB, zC, zD, zE, zF, q8.1, AV.cells]
     refine call_one (S := tputSpec) rfl _ GaL.rfl ⟨V, begunF (l.take i), yr20 n, rfl, hok2, hB.1.1, fun h2 g1 g2 => ?_⟩
     simp -dsimp only [Vm.G, zA, zB, zC, zD, zE, zF, q8.1]
     refine call_one (S := rtPutSpec) rfl _ GaL.rfl ⟨R, begunF (l.take i), yr20 n, rfl, hok2, hB.1.view g1 g2, by omega, fun h3 g3 g4 => ?_⟩
     have hB2 := hB.step g1 g2 g3 g4
     have hB2 : BothW h3 V R (begunF (l.take (i + 1))) noF := by rw [est]; exact hB2
     simp -dsimp only [Vm.G, zA, zB, zC, zD, zE, zF, q8.1]
     refine kept_intro ⟨l.length - (i + 1), by omega, _, le_mk [(4, .ptr V.iv 0), (5, .ptr R.iv 0), (14, .sl 12 (l.map ndAv)), (15, .v (.int .i64 l.length)), (16, .v (.int .i64 (i + 1 : Nat)))] ?_, i + 1, by omega, hB2, rfl⟩
     simp only [Vm.D, hw]
     try simp -dsimp only [Vm.G, zA, zB, zC, zD, zE, zF, q8.1, hw]
     repeat' first | exact .refl _ | exact .nil _ _ _ (by decide) | refine ⟨?_, ?_⟩
   · have hge : ¬ i < l.length := by have := of_decide_eq_false hcc; omega
     rw [zMa (by omega)] at hB
     simp -dsimp only [Vm.G, zA, zB, zC, zD, zE, zF, q8.1]
     exact hq V R h' hB
theorem does_few33 : Does Tryz.prog 5 fewWSpec := by
 refine dA good_nil Tryz.func5 rfl (by decide +kernel) ?_
 rintro args h Q ⟨ns, l, hl, rfl, hq⟩
 refine ⟨by simp [Tryz.f5], ?_⟩
 simp -dsimp only [Vm.G, zA, zB, zC, zD, zE, zF, q5.1]
 have h1 := zIa (decide ((ns.length : Int) > 20))
 rcases h1 with c1 | c1
 · simp -dsimp only [Vm.G, zA, zB, zC, zD, zE, zF, q5.1, c1]
   exact hq false fun h => by cases h
 · have d1 := of_decide_eq_false c1
   simp -dsimp only [Vm.G, zA, zB, zC, zD, zE, zF, q5.1, c1]
   have h2 := zIa (decide ((l.length : Int) > 20))
   rcases h2 with c2 | c2
   · simp -dsimp only [Vm.G, zA, zB, zC, zD, zE, zF, q5.1, c2]
     exact hq false fun h => by cases h
   · have d2 := of_decide_eq_false c2
     simp -dsimp only [Vm.G, zA, zB, zC, zD, zE, zF, q5.1, c2]
     refine awp_loop (fun m s h' => ∃ i : Nat, i + m = l.length ∧ h' = h ∧ (∀ j (hj : j < l.length), j < i → l[j].lines.length ≤ 20) ∧ s = mk [(15, .sl 3 (l.map dopAv)), (16, .v (.int .i64 l.length)), (17, .v (.int .i64 i))])
       l.length _ (le_mk _ ?_) ⟨0, by omega, rfl, fun _ _ hj => by omega, rfl⟩ ?_
     · simp only [Vm.D]
       try simp -dsimp only [Vm.G, zA, zB, zC, zD, zE, zF, q5.1]
       repeat' first | exact .refl _ | exact .nil _ _ _ (by decide) | refine ⟨?_, ?_⟩
     · rintro m s h' ⟨i, hi, rfl, hb, rfl⟩
       simp -dsimp only [Vm.G, zA, zB, zC, zD, zE, zF, q5.1]
       refine cond_intro (fun hcc => ?_) (fun hcc => ?_)
       · have hlt : i < l.length := by have := of_decide_eq_true hcc; omega
         have hw := hwN i (by omega)
         have hxe : ∃ k, l[i] = k := ⟨_, rfl⟩
         rcases hxe with ⟨k, hk⟩
         simp -dsimp only [Vm.G, zA, zB, zC, zD, zE, zF, q5.1]
         refine idx_map dopAv l i hlt ?_
         simp only [hk, dopAv]
         simp -dsimp only [Vm.G, zA, zB, zC, zD, zE, zF, q5.1, AV.cells]
         have h3 := zIa (decide ((k.lines.length : Int) > 20))
         rcases h3 with c3 | c3
         · simp -dsimp only [Vm.G, zA, zB, zC, zD, zE, zF, q5.1, c3]
           exact hq false fun h => by cases h
         · have d3 := of_decide_eq_false c3
           simp -dsimp only [Vm.G, zA, zB, zC, zD, zE, zF, q5.1, c3]
           refine kept_intro ⟨l.length - (i + 1), by omega, _, le_mk [(15, .sl 3 (l.map dopAv)), (16, .v (.int .i64 l.length)), (17, .v (.int .i64 (i + 1 : Nat)))] ?_, i + 1, by omega, rfl, fun j hj hj2 => ?_, rfl⟩
           · simp only [Vm.D, hw]
             try simp -dsimp only [Vm.G, zA, zB, zC, zD, zE, zF, q5.1, hw]
             repeat' first | exact .refl _ | exact .nil _ _ _ (by decide) | refine ⟨?_, ?_⟩
           · by_cases hji : j = i
             · subst hji; rw [hk]; omega
             · exact hb j hj (by omega)
       · have hge : ¬ i < l.length := by have := of_decide_eq_false hcc; omega
         simp -dsimp only [Vm.G, zA, zB, zC, zD, zE, zF, q5.1]
         refine hq true fun _ => ⟨by omega, by omega, fun k hk => ?_⟩
         obtain ⟨j, hj, rfl⟩ := List.getElem_of_mem hk
         exact hb j hj (by omega)
def xb1 : Nd := { Nd.zero with id := 1, limit := 9, fund := 100, obj := 5010 }
def xb2 : Ln := ⟨0, 0, 1, 4⟩
theorem xb1_ok : xb1.ok := by simp [Nd.ok, xb1, Nd.zero, I64]
theorem xb2_ok : xb2.ok := by simp [Ln.ok, xb2, I64]
theorem one_fundX {x y : Ln} {a : Int} (hx : x.fund = 100) (hy : y.fund = 100) (h : sumF [x, y] 100 = a) : IsFunds [x, y] [⟨100, 0, 0, a⟩] := ⟨by simp, fun z => ⟨fun hz => by
   rw [List.mem_singleton] at hz; subst hz
   exact ⟨⟨x, by simp, hx⟩, by show (⟨100, 0, 0, a⟩ : Ln) = ⟨100, 0, 0, sumF [x, y] 100⟩; rw [h]⟩, fun ⟨⟨w, hw, e⟩, hz⟩ => by
   have hf : z.fund = 100 := by
     simp only [zWa, zNa, or_false] at hw
     rcases hw with rfl | rfl
     · rw [← e]; exact hx
     · rw [← e]; exact hy
   rw [hf, h] at hz
   rw [hz]
   exact List.mem_singleton.2 rfl⟩⟩
theorem xb_lines : expLines (expAt (begunF [xb1]) 2020 0 [xb2]).1 2020 (expAt (begunF [xb1]) 2020 0 [xb2]).2 = [⟨100, 5010, 0, 4⟩, ⟨100, 1010, 0, -4⟩] := by kernel_rfl
theorem xb_new : expX (begunF [xb1]) 2020 0 [xb2] = expNew (begunF [xb1]) 2020 0 [xb2] [⟨100, 0, 0, 0⟩] := by
 unfold expX
 rw [xb_lines, fundsL_eq (one_fundX (a := 0) rfl rfl (by decide +kernel))]
theorem xb_ret : (expNew (begunF [xb1]) 2020 0 [xb2] [⟨100, 0, 0, 0⟩]).2 = (1, false, 0) := by decide +kernel
theorem xb_nd : (nodeAt (expNew (begunF [xb1]) 2020 0 [xb2] [⟨100, 0, 0, 0⟩]).1 2020 1).map (fun n => n.exp) = some 4 := by decide +kernel
theorem xb_b1 : readOf (expNew (begunF [xb1]) 2020 0 [xb2] [⟨100, 0, 0, 0⟩]).1 (balK 2020 100 5010) = 4 := by decide +kernel
theorem xb_b2 : readOf (expNew (begunF [xb1]) 2020 0 [xb2] [⟨100, 0, 0, 0⟩]).1 (balK 2020 100 1010) = -4 := by decide +kernel
theorem does_law33awake : Does Tryz.prog 6 trueSpec := by
 refine dA (good_cons does_begunW33 (good_cons does_expNew (good_cons does_tget (good_cons does_balGet good_nil)))) Tryz.func6 rfl (by decide +kernel) ?_
 rintro args h Q ⟨rfl, hq⟩
 refine ⟨by simp [Tryz.f6], ?_⟩
 simp -dsimp only [Vm.G, zA, zB, zC, zD, zE, zF, q6.1]
 refine bs_intro zr28 (by decide) (by decide) rfl rfl (by simp [solid, AV.cells]) ?_
 simp -dsimp only [Vm.G, zA, zB, zC, zD, zE, zF, q6.1]
 refine call_one (S := begunWSpec) rfl _ GaL.rfl ⟨[xb1], by simp, by simpa using xb1_ok, rfl, fun V R h1 hB => ?_⟩
 simp -dsimp only [Vm.G, zA, zB, zC, zD, zE, zF, q6.1]
 refine nil_pointer Tryz.underlying29 ?_
 simp -dsimp only [Vm.G, zA, zB, zC, zD, zE, zF, q6.1]
 refine bs_intro zr45 (by decide) (by decide) rfl rfl (by simp [solid, AV.cells]) ?_
 simp -dsimp only [Vm.G, zA, zB, zC, zD, zE, zF, q6.1]
 refine call_one (S := expNewSpec) rfl _ GaL.rfl ⟨V, begunF [xb1], 2020, 0, [xb2], by unfold I64; omega, by unfold I64; omega, by simp, by simpa using xb2_ok, rfl, hB.1.1, fun h2 g1 g2 => ?_⟩
 have e2 := xb_ret
 have e3 := xb_nd
 have e5 := xb_b1
 have e6 := xb_b2
 rw [xb_new] at g1 ⊢
 generalize expNew (begunF [xb1]) 2020 0 [xb2] [⟨100, 0, 0, 0⟩] = r at g1 e2 e3 e5 e6 ⊢
 rcases r with ⟨rf, ri, rw1, re⟩
 simp only [Prod.mk.injEq] at e2
 rcases e2 with ⟨rfl, rfl, rfl⟩
 simp only at e3 e5 e6 g1 ⊢
 simp -dsimp only [Vm.G, zA, zB, zC, zD, zE, zF, q6.1]
 refine call_one (S := tgetSpec) rfl _ GaL.rfl ⟨V, rf, 2020, 1, rfl, g1, fun n hn => ?_, fun hn => by rw [hn] at e3; cases e3⟩
 rw [hn] at e3
 have e4 : n.exp = 4 := by simpa using e3
 simp only [ndCells, e4]
 simp -dsimp only [Vm.G, zA, zB, zC, zD, zE, zF, q6.1]
 refine call_one (S := balGetSpec) rfl _ GaL.rfl ⟨V, rf, 2020, 100, 5010, rfl, g1, ?_⟩
 rw [e5]
 simp -dsimp only [Vm.G, zA, zB, zC, zD, zE, zF, q6.1]
 refine call_one (S := balGetSpec) rfl _ GaL.rfl ⟨V, rf, 2020, 100, 1010, rfl, g1, ?_⟩
 rw [e6]
 simp -dsimp only [Vm.G, zA, zB, zC, zD, zE, zF, q6.1]
 exact hq _
def xlawSpec : Vm.Spec := fun args h Q => ∃ (ns : List Nd) (fs l : List Dop), ns.length ≤ 9223372036854775807 ∧ fs.length ≤ 9223372036854775807 ∧ l.length ≤ 9223372036854775807 ∧ (∀ n ∈ ns, n.ok) ∧ (∀ k ∈ fs, k.ok) ∧ (∀ k ∈ l, k.ok) ∧ args = [.sl 12 (ns.map ndAv), .sl 3 (fs.map dopAv), .sl 3 (l.map dopAv)] ∧ ∀ h', Q (.v (.bool true)) h'
theorem does_xlaw : Does Tryz.prog 4 xlawSpec := by
 refine dA (good_cons does_few33 (good_cons does_begunW33 (good_cons does_encNew (good_cons does_rEncNew (good_cons does_expNew (good_cons does_rExpNew (good_cons does_xLines (good_cons does_rxLines (good_cons does_eqLn (good_cons does_end33 (good_cons does_law33awake good_nil))))))))))) Tryz.func4 rfl (by decide +kernel) ?_
 rintro args h Q ⟨ns, fs, l, hns, hfs, hl, hnok, hfok, hlok, rfl, hq⟩
 refine ⟨by simp [Tryz.f4], ?_⟩
 simp -dsimp only [Vm.G, zA, zB, zC, zD, zE, zF, q4.1]
 refine call_one (S := fewWSpec) rfl _ GaL.rfl ⟨ns, fs, hfs, rfl, fun b hb => ?_⟩
 have h0 := zIa b
 rcases h0 with c | c
 · have hbb := hb c
   rcases hbb with ⟨b1, b2, b3⟩
   simp -dsimp only [Vm.G, zA, zB, zC, zD, zE, zF, q4.1, c]
   refine call_one (S := fewWSpec) rfl _ (.cons (.nil 12) GaL.rfl) ⟨[], l, hl, rfl, fun b4 hb4 => ?_⟩
   have h5 := zIa b4
   rcases h5 with c4 | c4
   · have hbb4 := hb4 c4
     rcases hbb4 with ⟨-, b5, b6⟩
     simp -dsimp only [Vm.G, zA, zB, zC, zD, zE, zF, q4.1, c4]
     refine call_one (S := begunWSpec) rfl _ GaL.rfl ⟨ns, by omega, hnok, rfl, fun V R0 h1 hB => ?_⟩
     have hbn := begunF_n ns
     generalize begunF ns = f0 at hB hbn
     have hr0 : ∃ r0, r0 = R0.iv := ⟨_, rfl⟩
     rcases hr0 with ⟨r0, hr0⟩
     rw [← hr0]
     simp -dsimp only [Vm.G, zA, zB, zC, zD, zE, zF, q4.1]
     refine awp_loop (fun m s h' => ∃ (i : Nat) (R : RId) (f g : Fun), i + m = fs.length ∧ R.iv = r0 ∧ BothW h' V R f g ∧ f.n ≤ 21 + 62 * i ∧ g.n ≤ 21 + 62 * i ∧ s = mk [(2, .sl 3 (l.map dopAv)), (7, .ptr V.iv 0), (8, .ptr r0 0), (40, .sl 3 (fs.map dopAv)), (41, .v (.int .i64 fs.length)), (42, .v (.int .i64 (i : Nat)))])
       fs.length _ (le_mk _ ?_) ⟨0, R0, f0, noF, by omega, hr0.symm, hB, by omega, Nat.zero_le _, rfl⟩ ?_
     · simp only [Vm.D]
       try simp -dsimp only [Vm.G, zA, zB, zC, zD, zE, zF, q4.1]
       repeat' first | exact .refl _ | exact .nil _ _ _ (by decide) | refine ⟨?_, ?_⟩
     · clear hB hbn hr0
       rintro m s h' ⟨i, R, f, g, hi, hr, hB, hfn, hgn, rfl⟩
       simp -dsimp only [Vm.G, zA, zB, zC, zD, zE, zF, q4.1]
       refine cond_intro (fun hcc => ?_) (fun hcc => ?_)
       · have hlt : i < fs.length := by have := of_decide_eq_true hcc; omega
         have hw := hwN i (by omega)
         have hk := hfok fs[i] (zRa hlt)
         have hk2 := b3 fs[i] (zRa hlt)
         have hxe : ∃ k, fs[i] = k := ⟨_, rfl⟩
         rcases hxe with ⟨k, hkx⟩
         rw [hkx] at hk hk2
         rcases hk with ⟨o1, o2, o3⟩
         have z0 : I64 0 := by unfold I64; omega
         have hpn := encNew_n f k.year 0 k.lines
         simp -dsimp only [Vm.G, zA, zB, zC, zD, zE, zF, q4.1]
         refine idx_map dopAv fs i hlt ?_
         simp only [hkx, dopAv]
         simp -dsimp only [Vm.G, zA, zB, zC, zD, zE, zF, q4.1, AV.cells]
         refine call_one (S := encNewSpec) rfl _ GaL.rfl ⟨V, f, k.year, 0, k.lines, o1, z0, by omega, o3, rfl, hB.1.1, fun h2 g1 g2 => ?_⟩
         simp -dsimp only [Vm.G, zA, zB, zC, zD, zE, zF, q4.1]
         refine call_one (S := rEncNewSpec) rfl _ GaL.rfl ⟨R, f, k.year, 0, k.lines, o1, z0, by omega, o3, by rw [hr], hB.1.view g1 g2, by omega, fun h3 g3 g4 => ?_⟩
         have hB2 := hB.step g1 g2 g3 g4
         generalize encNew f k.year 0 k.lines = q at hpn hB2 ⊢
         rcases q with ⟨q0, qi, qw, qe⟩
         simp only at hpn hB2 ⊢
         simp -dsimp only [Vm.G, zA, zB, zC, zD, zE, zF, q4.1]
         refine call_one (S := endSpec) rfl _ GaL.rfl ⟨V, R, q0, g, qe, by rw [hr], hB2, by omega, by omega, fun R2 h4 e4 hB4 => ?_⟩
         simp -dsimp only [Vm.G, zA, zB, zC, zD, zE, zF, q4.1]
         refine kept_intro ⟨fs.length - (i + 1), by omega, _, le_mk [(2, .sl 3 (l.map dopAv)), (7, .ptr V.iv 0), (8, .ptr r0 0), (40, .sl 3 (fs.map dopAv)), (41, .v (.int .i64 fs.length)), (42, .v (.int .i64 (i + 1 : Nat)))] ?_, i + 1, R2, _, _, by omega, e4.trans hr, hB4, turnF_n (by omega) (by omega), turnF_n (by omega) (by omega), rfl⟩
         simp only [Vm.D, hw]
         try simp -dsimp only [Vm.G, zA, zB, zC, zD, zE, zF, q4.1, hw]
         repeat' first | exact .refl _ | exact .nil _ _ _ (by decide) | refine ⟨?_, ?_⟩
       · have hge : ¬ i < fs.length := by have := of_decide_eq_false hcc; omega
         clear hcc
         have hfn2 : f.n ≤ 1261 := by omega
         have hgn2 : g.n ≤ 1261 := by omega
         simp -dsimp only [Vm.G, zA, zB, zC, zD, zE, zF, q4.1]
         refine awp_loop (fun m s h' => ∃ (i : Nat) (R : RId) (f g : Fun), i + m = l.length ∧ R.iv = r0 ∧ BothW h' V R f g ∧ f.n ≤ 1261 + 120 * i ∧ g.n ≤ 1261 + 120 * i ∧ s = mk [(7, .ptr V.iv 0), (8, .ptr r0 0), (68, .sl 3 (l.map dopAv)), (69, .v (.int .i64 l.length)), (70, .v (.int .i64 (i : Nat)))])
           l.length _ (le_mk _ ?_) ⟨0, R, f, g, by omega, hr, hB, by omega, by omega, rfl⟩ ?_
         · simp only [Vm.D]
           try simp -dsimp only [Vm.G, zA, zB, zC, zD, zE, zF, q4.1]
           repeat' first | exact .refl _ | exact .nil _ _ _ (by decide) | refine ⟨?_, ?_⟩
         · clear hB hr hfn hgn hfn2 hgn2 hi hge
           rintro m s h' ⟨i, R, f, g, hi, hr, hB, hfn, hgn, rfl⟩
           simp -dsimp only [Vm.G, zA, zB, zC, zD, zE, zF, q4.1]
           refine cond_intro (fun hcc => ?_) (fun hcc => ?_)
           · have hlt : i < l.length := by have := of_decide_eq_true hcc; omega
             have hwi := hwN i (by omega)
             have hk := hlok l[i] (zRa hlt)
             have hk2 := b6 l[i] (zRa hlt)
             have hxe : ∃ k, l[i] = k := ⟨_, rfl⟩
             rcases hxe with ⟨k, hkx⟩
             rw [hkx] at hk hk2
             rcases hk with ⟨o1, o2, o3⟩
             have hpn := expX_n f k.year k.frm k.lines
             simp -dsimp only [Vm.G, zA, zB, zC, zD, zE, zF, q4.1]
             refine idx_map dopAv l i hlt ?_
             simp only [hkx, dopAv]
             simp -dsimp only [Vm.G, zA, zB, zC, zD, zE, zF, q4.1, AV.cells]
             refine call_one (S := expNewSpec) rfl _ GaL.rfl ⟨V, f, k.year, k.frm, k.lines, o1, o2, by omega, o3, rfl, hB.1.1, fun h2 g1 g2 => ?_⟩
             simp -dsimp only [Vm.G, zA, zB, zC, zD, zE, zF, q4.1]
             refine call_one (S := rExpNewSpec) rfl _ GaL.rfl ⟨R, f, k.year, k.frm, k.lines, o1, o2, by omega, o3, by rw [hr], hB.1.view g1 g2, by omega, fun h3 g3 g4 => ?_⟩
             have hB2 := hB.step g1 g2 g3 g4
             generalize expX f k.year k.frm k.lines = q at hpn hB2 ⊢
             rcases q with ⟨q0, qi, qw, qe⟩
             simp only at hpn hB2 ⊢
             simp -dsimp only [Vm.G, zA, zB, zC, zD, zE, zF, q4.1, bool_neq, bne_self_eq_false, beq_self_eq_true]
             refine call_one (S := endSpec) rfl _ GaL.rfl ⟨V, R, q0, g, qe, by rw [hr], hB2, by omega, by omega, fun R2 h4 e4 hB4 => ?_⟩
             have htn : (turnF qe q0 g).n ≤ 1261 + 120 * (i + 1) := turnF_n (by omega) (by omega)
             generalize turnF qe q0 g = F at hB4 htn
             have hr2 : R2.iv = r0 := e4.trans hr
             clear hB hB2 g1 g2 g3 g4 e4 hr hpn hkx hcc hfn hgn
             simp -dsimp only [Vm.G, zA, zB, zC, zD, zE, zF, q4.1]
             refine awp_loop (fun m s h' => ∃ j : Nat, j + m = k.lines.length ∧ h' = h4 ∧ s = mk [(7, .ptr V.iv 0), (8, .ptr r0 0), (15, .box [.v (.int .i64 k.year), .v (.int .i64 k.frm), .sl 4 (k.lines.map lnAv)]), (22, .own true 47 4 ((ownL (k.lines.take (j))).map dlAv)), (68, .sl 3 (l.map dopAv)), (69, .v (.int .i64 l.length)), (70, .v (.int .i64 (i : Nat))), (119, .sl 4 (k.lines.map lnAv)), (120, .v (.int .i64 k.lines.length)), (121, .v (.int .i64 (j : Nat)))])
               k.lines.length _ (le_mk _ ?_) ⟨0, by omega, rfl, rfl⟩ ?_
             · simp only [Vm.D]
               try simp -dsimp only [Vm.G, zA, zB, zC, zD, zE, zF, q4.1]
               repeat' first | exact .refl _ | exact .nil _ _ _ (by decide) | refine ⟨?_, ?_⟩
             · rintro m s h' ⟨j, hj, rfl, rfl⟩
               simp -dsimp only [Vm.G, zA, zB, zC, zD, zE, zF, q4.1]
               refine cond_intro (fun hcc => ?_) (fun hcc => ?_)
               · have hlt : j < k.lines.length := by have := of_decide_eq_true hcc; omega
                 have hw := hwN j (by omega)
                 have est : ownL (k.lines.take (j + 1)) = ownL (k.lines.take j) ++ [⟨k.lines[j].node, k.lines[j].amt, 0, 0⟩] := by
                   unfold ownL
                   rw [List.take_succ_eq_append_getElem hlt, zQa]; rfl
                 have hol : (ownL (k.lines.take j)).length ≤ j := by unfold ownL; rw [zJa, zUa]; omega
                 have hxe : ∃ x, k.lines[j] = x := ⟨_, rfl⟩
                 rcases hxe with ⟨x, hx⟩
                 rw [hx] at est
                 simp -dsimp only [Vm.G, zA, zB, zC, zD, zE, zF, q4.1]
                 refine idx_map lnAv k.lines j hlt ?_
                 simp only [hx, lnAv, lnCells]
                 simp -dsimp only [Vm.G, zA, zB, zC, zD, zE, zF, q4.1, AV.cells]
                 refine bs_intro zr47 (by decide) (by decide) rfl rfl (by simp [solid, AV.cells]) ?_
                 simp -dsimp only [Vm.G, zA, zB, zC, zD, zE, zF, q4.1]
                 refine app_sl Tryz.underlying43 (by simp [AV.cells]) (by simp only [zJa, zVa, zPa]; omega) ?_
                 simp -dsimp only [Vm.G, zA, zB, zC, zD, zE, zF, q4.1]
                 refine kept_intro ⟨k.lines.length - (j + 1), by omega, _, le_mk [(7, .ptr V.iv 0), (8, .ptr r0 0), (15, .box [.v (.int .i64 k.year), .v (.int .i64 k.frm), .sl 4 (k.lines.map lnAv)]), (22, .own true 47 4 ((ownL (k.lines.take (j + 1))).map dlAv)), (68, .sl 3 (l.map dopAv)), (69, .v (.int .i64 l.length)), (70, .v (.int .i64 (i : Nat))), (119, .sl 4 (k.lines.map lnAv)), (120, .v (.int .i64 k.lines.length)), (121, .v (.int .i64 (j + 1 : Nat)))] ?_, j + 1, by omega, rfl, rfl⟩
                 simp only [Vm.D, hw, est, zQa, zIb, zKb, dlAv, dlCells]
                 try simp -dsimp only [Vm.G, zA, zB, zC, zD, zE, zF, q4.1, hw, est, zQa, zIb, zKb, dlAv, dlCells]
                 repeat' first | exact .refl _ | exact .nil _ _ _ (by decide) | refine ⟨?_, ?_⟩
               · have hge : ¬ j < k.lines.length := by have := of_decide_eq_false hcc; omega
                 rw [zMa (by omega)]
                 have hol := ownL_length k.lines
                 have hxl := exp_len F k.year (ownL k.lines)
                 generalize ownL k.lines = O at hol hxl ⊢
                 clear hcc hj hge
                 simp -dsimp only [Vm.G, zA, zB, zC, zD, zE, zF, q4.1]
                 refine draw_cont [15] (.take 0 (.take 1 (.take 2 (.take 3 (.take 5 (.take 6 (.take 7 (.take 8 (.alt 4 (.alt 9 (.alt 10 (.take 11 (.done)) .stop) .stop) .stop))))))))) (fun s h2 => h2 = h' ∧ s 145 = .v (.bool false) ∧ s 7 = .ptr V.iv 0 ∧ s 8 = .ptr r0 0 ∧ s 68 = .sl 3 (l.map dopAv) ∧ s 69 = .v (.int .i64 l.length) ∧ s 70 = .v (.int .i64 (i : Nat))) (by kernel_rfl) (by kernel_rfl) (by kernel_rfl) (by decide) ?_ ?_
                 · clear hq
                   repeat' first
                     | with_reducible exact True.intro
                     | refine call_one (S := xLinesSpec) rfl _ GaL.rfl ⟨V, F, k.year, O, by omega, rfl, hB4.1.1, ?_⟩
                     | refine call_one (S := rxLinesSpec) rfl _ GaL.rfl ⟨R2, F, k.year, O, by omega, by rw [hr2], hB4.1.2.1, by omega, ?_⟩
                     | (refine call_one (S := eqSpecLn) rfl _ GaL.rfl ⟨expLines F k.year O, expLines F k.year O, by omega, rfl, fun b hb => ?_⟩
                        have hb1 : b = true := hb.2 rfl
                        subst hb1)
                     | simp -dsimp only [Vm.G, zA, zB, zC, zD, zE, zF, q4.1, AV.cells]
                     | refine tree_alt ?_ ?_
                     | repeat' first | rfl | exact True.intro | refine And.intro ?_ ?_
                 · rintro s h2 ⟨rfl, e145, e7, e8, e68, e69, e70⟩
                   simp -dsimp only [Vm.G, zA, zB, zC, zD, zE, zF, q4.1, e145, e7, e8, e68, e69, e70]
                   refine kept_intro ⟨l.length - (i + 1), by omega, _, le_mk [(7, .ptr V.iv 0), (8, .ptr r0 0), (68, .sl 3 (l.map dopAv)), (69, .v (.int .i64 l.length)), (70, .v (.int .i64 (i + 1 : Nat)))] ?_, i + 1, R2, _, _, by omega, hr2, hB4, by omega, by omega, rfl⟩
                   simp only [Vm.D, hwi, e7, e8, e68, e69, e70]
                   try simp -dsimp only [Vm.G, zA, zB, zC, zD, zE, zF, q4.1, hwi, e7, e8, e68, e69, e70]
                   repeat' first | exact .refl _ | exact .nil _ _ _ (by decide) | refine ⟨?_, ?_⟩
           · have hge : ¬ i < l.length := by have := of_decide_eq_false hcc; omega
             clear hcc
             simp -dsimp only [Vm.G, zA, zB, zC, zD, zE, zF, q4.1]
             refine call_one (S := trueSpec) rfl _ GaL.rfl ⟨rfl, fun hz => ?_⟩
             simp -dsimp only [Vm.G, zA, zB, zC, zD, zE, zF, q4.1]
             exact hq _
   · simp -dsimp only [Vm.G, zA, zB, zC, zD, zE, zF, q4.1, c4]
     refine call_one (S := trueSpec) rfl _ GaL.rfl ⟨rfl, fun hz => ?_⟩
     simp -dsimp only [Vm.G, zA, zB, zC, zD, zE, zF, q4.1]
     exact hq _
 · simp -dsimp only [Vm.G, zA, zB, zC, zD, zE, zF, q4.1, c]
   refine call_one (S := trueSpec) rfl _ GaL.rfl ⟨rfl, fun hz => ?_⟩
   simp -dsimp only [Vm.G, zA, zB, zC, zD, zE, zF, q4.1]
   exact hq _
theorem xlaw_args {y0 y1 y2 : AV} (i0 : IsA (.sl (.agg [.int .i64, .int .i64, .int .i64, .int .i64, .int .i64, .bool, .int .i64, .int .i64, .int .i64, .int .i64, .int .i64, .int .i64])) y0) (i1 : IsA (.sl (.agg [.int .i64, .int .i64, .sl (.agg [.int .i64, .int .i64, .int .i64, .int .i64])])) y1) (i2 : IsA (.sl (.agg [.int .i64, .int .i64, .sl (.agg [.int .i64, .int .i64, .int .i64, .int .i64])])) y2) {Q : AV → Heap → Prop} (hq : ∀ h', Q (.v (.bool true)) h') : xlawSpec [y0, y1, y2] [] Q := by
 obtain ⟨ns, h1, rfl, o1⟩ := isA_list _ ndAv (fun y hy => isA_nd hy) i0
 obtain ⟨fs, h2, rfl, o2⟩ := isA_list _ dopAv (fun y hy => isA_dop hy) i1
 obtain ⟨l, h3, rfl, o3⟩ := isA_list _ dopAv (fun y hy => isA_dop hy) i2
 exact ⟨ns, fs, l, h1, h2, h3, o1, o2, o3, rfl, hq⟩
end Go.Proofs.Lx
