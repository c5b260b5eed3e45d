/- What the functions of the program do: their contracts. -/
import Derived.Test.YtneohggmipeknabGreatDoorV2
import Derived.Test.YtneohggmipeknabGreatDoorTFs
import Derived.Test.YtneohggmipeknabGreatDoorW1
import Derived.Test.YtneohggmipeknabGreatDoorShelfGr
import Derived.Test.YtneohggmipeknabGreatDoorShelfSs
open List renaming lookup → zA, map_append → zJa, length_map → zKa, map_cons → zLa, map_nil → zMa, length_cons → zNa, length_nil → zOa, take_succ_eq_append_getElem → zPa, length_append → zQa, getElem?_eq_getElem → zRa, take_of_length_le → zSa, getElem?_set_ne → zTa, length_take → zUa, drop_zero → zVa, drop_eq_getElem_cons → zWa, getElem?_set_self → zIb, getElem?_eq_none → zJb, getElem_mem → zKb, getElem?_append_right → zLb, drop_of_length_le → zMb, getElem?_append_left → zNb, getElem_of_mem → zOb, mem_map → zPb, getElem?_map → zSb, length_set → zTb
open Nat renaming reduceAdd → zB, reduceBEq → zC, reduceLeDiff → zF, le_refl → zYa
open Int renaming reduceBNe → zD, reduceBEq → zE, toNat_natCast → zXa
open Bool renaming true_beq → zG, false_beq → zH, eq_false_or_eq_true → zIa, and_false → zQb, false_and → zRb
set_option maxRecDepth 20000
set_option maxHeartbeats 16000000
set_option linter.unusedSimpArgs false
set_option linter.unusedVariables false
namespace Go.Proofs.Lx
open Go.Vm Go.RowKit
attribute [local irreducible] awpArr awpBin awpMake awpAppend awpCvX awpStrOf awpBinX awpSlice awpBS awpStore awpAlloc awpCopy awpIndex awpDraw awpIdxX awpFa awpField awpLookup awpUpdate awpDelete awpClear awpRange awpNext awpEntry awpBuild awpClearS awpIdxL awpTree appB awpIdxO eltA treeA
def growSpec : Vm.Spec := fun args h Q => ∃ n : Nat, args = [.v (.slice none 0 0), .v (.int .i64 n)] ∧ 1 ≤ n ∧ n ≤ 1048576 ∧ Q (.own true 45 4 []) h
theorem elemIn_inv {P : Program} {t e e' : TypeId} {sz bs : Nat} (hu : P.underlying t = some (.slice e)) (he : elemIn P t = some (e', sz, bs)) : ∃ i0 z, P.info? e = some i0 ∧ i0.zero = some z ∧ i0.size = sz ∧ i0.bytes = bs ∧ z.cells.size = sz := by
 unfold elemIn at he
 rw [hu] at he
 simp only at he
 cases hi : P.info? e with
 | none => rw [hi] at he; cases he
 | some i0 =>
   rw [hi] at he
   simp only at he
   cases hz : i0.zero with
   | none => rw [hz] at he; cases he
   | some z =>
     rw [hz] at he
     simp only at he
     split at he
     · rename_i hc
       injection he with he
       injection he with _ he
       injection he with e1 e2
       exact ⟨i0, z, rfl, hz, e1, e2, hc.1.trans e1⟩
     · cases he
theorem does_growLn : Does Tryz.prog 226 growSpec := by
 refine ⟨⟨Tryz.f226, Tryz.func226, by kernel_rfl, by decide +kernel⟩, ?_⟩
 rintro args h Q ⟨n, rfl, hn1, hn2, hq⟩ w g vs hvs hrep hh hfr hlaid
 have hv0 : vs.getD 0 undef = .slice none 0 0 := (rep_v (hrep 0 _ rfl)).1
 have hv1 : vs.getD 1 undef = .int .i64 n := (rep_v (hrep 1 _ rfl)).1
 have hvs2 : vs = #[.slice none 0 0, .int .i64 n] := by
   have h2 : vs.size = 2 := hvs
   apply Array.ext
   · simpa using h2
   · intro i hi1 hi2
     have : i = 0 ∨ i = 1 := by omega
     rcases this with rfl | rfl
     · simpa [Array.getD, h2] using hv0
     · simpa [Array.getD, h2] using hv1
 subst hvs2
 have hi : ∃ i0 z, Tryz.prog.info? 45 = some i0 ∧ i0.zero = some z ∧ i0.size = 4 ∧ i0.bytes = 32 ∧ z.cells.size = 4 :=
   elemIn_inv Tryz.underlying33 ei33
 obtain ⟨i0, z, hi0, hz0, hs0, hb0, hzs⟩ := hi
 have key : Calls Tryz.prog 226 #[.slice none 0 0, .int .i64 n] w fun e w' => e = .returned (.slice (some ⟨w.heap.size, 0, none⟩) 0 (grownCap w (0 + n) 0 45)) ∧
     w' = w.drew.alloc (.cells (([] : List Value).toArray ++ Builtin.zeroCells z.cells (0 + n - 0) ++ Builtin.zeroCells z.cells (grownCap w (0 + n) 0 45 - (0 + n))) 45) :=
   Any8.slices_Grow_grow Tryz.growLine i0 z hi0 hz0 (by omega) none 0 0 n [] w (zYa _) (by omega) (by rw [hb0]; omega) (by omega) (by simp) (fun _ => rfl) (fun a ha => by cases ha)
 have hGn := grownCap_ge w (0 + n) 0 45
 have hGm := grownCap_le_maxLen w (0 + n) 0 45 (by unfold maxLen; omega)
 generalize grownCap w (0 + n) 0 45 = G at key hGn hGm
 have hcz : ∀ m, (Builtin.zeroCells z.cells m).size = m * 4 := fun m => by rw [← hzs]; exact size_zeroCells _ _
 obtain ⟨cur, hcur⟩ : ∃ cur, cur = ([] : List Value).toArray ++ Builtin.zeroCells z.cells (0 + n - 0) ++ Builtin.zeroCells z.cells (G - (0 + n)) := ⟨_, rfl⟩
 have hcs : cur.size = G * 4 := by rw [hcur, Array.size_append, Array.size_append, hcz, hcz]; simp; omega
 rw [← hcur] at key
 refine key.mono ?_
 rintro e w' ⟨rfl, rfl⟩
 have hget : ∀ k, k < w.heap.size → (w.drew.alloc (.cells cur 45)).heap[k]? = w.heap[k]? := fun k hk => by
   show (w.heap.push _)[k]? = _
   rw [Array.getElem?_push, if_neg (by omega)]
 have hlast : (w.drew.alloc (.cells cur 45)).heap[w.heap.size]? = some (.cells cur 45 (0, 0)) := by
   show (w.heap.push _)[w.heap.size]? = _
   rw [Array.getElem?_push, if_pos rfl]
 have hsize : (w.drew.alloc (.cells cur 45)).heap.size = w.heap.size + 1 := by
   show (w.heap.push _).size = _
   rw [Array.size_push]
 have hos : (w.drew.alloc (.cells cur 45)).os = w.os ∧ (w.drew.alloc (.cells cur 45)).tape = w.tape ∧ (w.drew.alloc (.cells cur 45)).output = w.output := ⟨rfl, rfl, rfl⟩
 generalize w.drew.alloc (.cells cur 45) = w' at hget hlast hsize hos ⊢
 have hk : Keeps w g w' g := ⟨fun _ => zYa _, fun k j v hj hv => by
   have hkl : k < w.heap.size := by
     rcases Nat.lt_or_ge k w.heap.size with h | h
     · exact h
     · rw [hfr k h] at hj; omega
   rw [World.cell?_of_block (a := ⟨k, j, none⟩) (hget k hkl)]; exact hv, zYa _, fun _ _ => rfl⟩
 refine ⟨.own true 45 4 [], h, g, _, hq, rfl, ⟨⟨by decide, by simp, [], ⟨by simp, .inr ⟨w.heap.size, G, cur, rfl, zYa _, hlast, Nat.zero_le _, hGm, hcs, by simp⟩⟩, by simp, fun j u hu => by simp [flat] at hu, fun b hb => ?_⟩, fun b hb k hk2 => ?_⟩, ?_, ?_, zYa _, fun _ _ => rfl, fun _ _ => rfl, fun i hi1 hi2 => by omega, fun b hb => hfr b (by omega)⟩
 · simp only [Value.ownBlock, Option.some.injEq] at hb
   subst hb
   rw [hfr _ (zYa _)]
   exact Nat.zero_le _
 · simp only [Value.ownBlock, Option.some.injEq] at hb
   subst hb
   have := hh.lt k hk2
   omega
 · exact ⟨hh.n, fun i hi => by have := hh.lt i hi; omega, hh.inj, fun i o ho => (hh.obj i o ho).keepAt hk ⟨hget _ (hh.lt i (by rw [← hh.n]; exact get_lt ho)), rfl⟩⟩
 · exact ⟨hos.1, hos.2.1, hos.2.2, by omega, fun k hk2 _ => hget k hk2⟩
def lnsAv (p : List Ln) : AV := .sl 4 (p.map lnAv)
def concatSpec : Vm.Spec := fun args h Q => ∃ ps : List (List Ln), ps.length ≤ 1048576 ∧ 1 ≤ ps.flatten.length ∧ ps.flatten.length ≤ 1048576 ∧ args = [.sl 1 (ps.map lnsAv)] ∧ Q (.own true 45 4 (ps.flatten.map lnAv)) h
theorem flat_take {α : Type} {ps : List (List α)} {i : Nat} (hi : i < ps.length) : (ps.take (i + 1)).flatten = (ps.take i).flatten ++ ps[i] ∧ (ps.take (i + 1)).flatten.length ≤ ps.flatten.length := by
 constructor
 · rw [zPa hi, List.flatten_append]; simp
 · have e : ps.flatten = (ps.take (i + 1)).flatten ++ (ps.drop (i + 1)).flatten := by rw [← List.flatten_append, List.take_append_drop]
   rw [e, zQa]; omega
theorem does_concatLn : Does Tryz.prog 184 concatSpec := by
 refine dA (good_cons does_growLn good_nil) Tryz.func184 rfl (by decide +kernel) ?_
 rintro args h Q ⟨ps, hpl, hf1, hf2, rfl, hq⟩
 refine ⟨by simp [Tryz.f184], ?_⟩
 simp -dsimp only [Vm.G, zA, zB, zC, zD, zE, zF, q184.1]
 refine awp_loop (fun m s h' => ∃ i : Nat, i + m = ps.length ∧ h' = h ∧ s = mk [(0, .sl 1 (ps.map lnsAv)), (3, .v (.int .i64 ((ps.take (i)).flatten.length : Nat))), (9, .sl 1 (ps.map lnsAv)), (10, .v (.int .i64 ps.length)), (11, .v (.int .i64 (i : Nat)))])
   ps.length _ (le_mk _ ?_) ⟨0, by omega, rfl, rfl⟩ ?_
 · simp only [Vm.D]
   try simp -dsimp only [Vm.G, zA, zB, zC, zD, zE, zF, q184.1]
   repeat' first | exact .refl _ | exact .nil _ _ _ (by decide) | refine ⟨?_, ?_⟩
 · rintro m s h' ⟨i, hi, rfl, rfl⟩
   simp -dsimp only [Vm.G, zA, zB, zC, zD, zE, zF, q184.1]
   refine cond_intro (fun hcc => ?_) (fun hcc => ?_)
   · have hlt : i < ps.length := by have := of_decide_eq_true hcc; omega
     have hw := hwN i (by omega)
     have hft := flat_take hlt
     rcases hft with ⟨ft1, ft2⟩
     have hsum : (((ps.take i).flatten.length : Nat) : Int) + ((ps[i].length : Nat) : Int) = (((ps.take (i + 1)).flatten.length : Nat) : Int) := by rw [ft1, zQa]; omega
     have hxe : ∃ p, ps[i] = p := ⟨_, rfl⟩
     rcases hxe with ⟨p, hp⟩
     rw [hp] at hsum
     have hNe : ∃ N, N = (ps.take (i + 1)).flatten.length := ⟨_, rfl⟩
     rcases hNe with ⟨N, hN⟩
     rw [← hN] at hsum ft2
     have hwn : IntKind.i64.wrap ((N : Nat) : Int) = (N : Int) := wrap_i64 (by omega) (by omega)
     have hneg : decide ((N : Int) < 0) = false := decide_eq_false (by omega)
     simp -dsimp only [Vm.G, zA, zB, zC, zD, zE, zF, q184.1]
     refine idx_map lnsAv ps i hlt ?_
     simp only [hp, lnsAv]
     simp -dsimp only [Vm.G, zA, zB, zC, zD, zE, zF, q184.1, AV.cells, hsum, hwn, hneg]
     refine kept_intro ⟨ps.length - (i + 1), by omega, _, le_mk [(0, .sl 1 (ps.map lnsAv)), (3, .v (.int .i64 (N : Nat))), (9, .sl 1 (ps.map lnsAv)), (10, .v (.int .i64 ps.length)), (11, .v (.int .i64 (i + 1 : Nat)))] ?_, i + 1, by omega, rfl, ?_⟩
     · simp only [Vm.D, hw, lnsAv]
       try simp -dsimp only [Vm.G, zA, zB, zC, zD, zE, zF, q184.1, hw, lnsAv]
       repeat' first | exact .refl _ | exact .nil _ _ _ (by decide) | refine ⟨?_, ?_⟩
     · rw [hN]
   · have hge : ¬ i < ps.length := by have := of_decide_eq_false hcc; omega
     clear hcc
     rw [zSa (by omega)]
     simp -dsimp only [Vm.G, zA, zB, zC, zD, zE, zF, q184.1]
     refine call_one (S := growSpec) rfl _ GaL.rfl ⟨ps.flatten.length, rfl, hf1, hf2, ?_⟩
     simp -dsimp only [Vm.G, zA, zB, zC, zD, zE, zF, q184.1]
     refine awp_loop (fun m s h2 => ∃ i : Nat, i + m = ps.length ∧ h2 = h' ∧ s = mk [(6, .own true 45 4 ((ps.take (i)).flatten.map lnAv)), (25, .sl 1 (ps.map lnsAv)), (26, .v (.int .i64 ps.length)), (27, .v (.int .i64 (i : Nat)))])
       ps.length _ (le_mk _ ?_) ⟨0, by omega, rfl, rfl⟩ ?_
     · simp only [Vm.D]
       try simp -dsimp only [Vm.G, zA, zB, zC, zD, zE, zF, q184.1]
       repeat' first | exact .refl _ | exact .nil _ _ _ (by decide) | refine ⟨?_, ?_⟩
     · clear hge hi
       rintro m s h2 ⟨i, hi, rfl, rfl⟩
       simp -dsimp only [Vm.G, zA, zB, zC, zD, zE, zF, q184.1]
       refine cond_intro (fun hcc => ?_) (fun hcc => ?_)
       · have hlt : i < ps.length := by have := of_decide_eq_true hcc; omega
         have hw := hwN i (by omega)
         have hft := flat_take hlt
         rcases hft with ⟨ft1, ft2⟩
         have hxe : ∃ p, ps[i] = p := ⟨_, rfl⟩
         rcases hxe with ⟨p, hp⟩
         have hl1 : (ps.take i).flatten.length + p.length ≤ 1048576 := by rw [ft1, hp, zQa] at ft2; omega
         rw [hp] at ft1
         simp -dsimp only [Vm.G, zA, zB, zC, zD, zE, zF, q184.1]
         refine idx_map lnsAv ps i hlt ?_
         simp only [hp, lnsAv]
         simp -dsimp only [Vm.G, zA, zB, zC, zD, zE, zF, q184.1, AV.cells]
         refine app_sl Tryz.underlying33 (fun c hc => by obtain ⟨y, -, rfl⟩ := zPb.1 hc; rfl) (by simp only [zKa]; omega) ?_
         simp -dsimp only [Vm.G, zA, zB, zC, zD, zE, zF, q184.1]
         refine kept_intro ⟨ps.length - (i + 1), by omega, _, le_mk [(6, .own true 45 4 ((ps.take (i + 1)).flatten.map lnAv)), (25, .sl 1 (ps.map lnsAv)), (26, .v (.int .i64 ps.length)), (27, .v (.int .i64 (i + 1 : Nat)))] ?_, i + 1, by omega, rfl, rfl⟩
         simp only [Vm.D, hw, ft1, zJa, lnsAv]
         try simp -dsimp only [Vm.G, zA, zB, zC, zD, zE, zF, q184.1, hw, ft1, zJa, lnsAv]
         repeat' first | exact .refl _ | exact .nil _ _ _ (by decide) | refine ⟨?_, ?_⟩
       · have hge : ¬ i < ps.length := by have := of_decide_eq_false hcc; omega
         rw [zSa (by omega)]
         simp -dsimp only [Vm.G, zA, zB, zC, zD, zE, zF, q184.1]
         exact hq
def owedSpec : Vm.Spec := fun args h Q => ∃ x : Ln, args = [lnAv x] ∧ (x.amt > 0 → Q (.own true 45 4 ((owedL x).map lnAv)) h) ∧ (x.amt < 0 → Q (.own true 45 4 ((owedL x).map lnAv)) h) ∧ (x.amt = 0 → Q (.sl 4 ((owedL x).map lnAv)) h)
theorem does_owed0 : Does Tryz.prog 228 (fun args h Q => ∃ x : Ln, args = [lnAv x] ∧ (x.amt > 0 → Q (.own true 45 4 ((owedL x).map lnAv)) h) ∧ (x.amt < 0 → Q (.own true 45 4 ((owedL x).map lnAv)) h) ∧ (x.amt = 0 → Q (.v (.slice none 0 0)) h)) := by
 refine dA good_nil Tryz.func228 rfl (by decide +kernel) ?_
 rintro args h Q ⟨x, rfl, hq1, hq2, hq3⟩
 refine ⟨by simp [Tryz.f228], ?_⟩
 unfold owedL at hq1 hq2
 simp only [lnAv, lnCells]
 by_cases h1 : x.amt > 0
 · have c1 : decide (x.amt > 0) = true := decide_eq_true h1
   have hq := hq1 h1
   rw [if_pos h1] at hq
   simp -dsimp only [Vm.G, zA, zB, zC, zD, zE, zF, q228.1, c1]
   refine bs_intro zr45 (by decide) (by decide) rfl rfl (by simp [solid, AV.cells]) ?_
   simp -dsimp only [Vm.G, zA, zB, zC, zD, zE, zF, q228.1]
   exact hq
 · have c1 : decide (x.amt > 0) = false := decide_eq_false h1
   by_cases h2 : x.amt < 0
   · have c2 : decide (x.amt < 0) = true := decide_eq_true h2
     have hq := hq2 h2
     rw [if_neg h1, if_pos h2] at hq
     simp -dsimp only [Vm.G, zA, zB, zC, zD, zE, zF, q228.1, c1, c2]
     refine bs_intro zr45 (by decide) (by decide) rfl rfl (by simp [solid, AV.cells]) ?_
     simp -dsimp only [Vm.G, zA, zB, zC, zD, zE, zF, q228.1]
     exact hq
   · have c2 : decide (x.amt < 0) = false := decide_eq_false h2
     simp -dsimp only [Vm.G, zA, zB, zC, zD, zE, zF, q228.1, c1, c2]
     exact hq3 (by omega)
theorem does_owed : Does Tryz.prog 228 owedSpec := by
 refine does_owed0.weak.imp ?_
 rintro args h Q ⟨x, rfl, hq1, hq2, hq3⟩
 exact ⟨x, rfl, fun h1 => ⟨_, .refl _, hq1 h1⟩, fun h1 => ⟨_, .refl _, hq2 h1⟩, fun h1 => ⟨_, .nil 4, by
   have e : owedL x = [] := by unfold owedL; rw [if_neg (by omega), if_neg (by omega)]
   have := hq3 h1
   rw [e] at this
   exact this⟩⟩
theorem owed_len (x : Ln) : (owedL x).length ≤ 1 := by
 unfold owedL
 split
 · exact zYa _
 · split
   · exact zYa _
   · exact Nat.zero_le _
theorem balance_len : ∀ r : List Ln, (balanceL r).length ≤ r.length
 | [] => Nat.zero_le _
 | x :: r => by
   have h1 := owed_len x
   have h2 := balance_len r
   show (owedL x ++ balanceL r).length ≤ r.length + 1
   rw [zQa]; omega
theorem balance_take {r : List Ln} {i : Nat} (hi : i < r.length) : balanceL (r.take (i + 1)) = balanceL (r.take i) ++ owedL r[i] := by
 unfold balanceL
 rw [zPa hi, List.flatMap_append]
 simp
def balanceSpec : Vm.Spec := fun args h Q => ∃ l : List Ln, l.length ≤ 1048576 ∧ args = [.sl 4 (l.map lnAv)] ∧ ∀ r h', IsFunds l r → Same h h' [] → Q (.own true 45 4 ((balanceL r).map lnAv)) h'
theorem does_balance : Does Tryz.prog 185 balanceSpec := by
 refine dA (good_cons does_funds (good_cons does_owed good_nil)) Tryz.func185 rfl (by decide +kernel) ?_
 rintro args h Q ⟨l, hl, rfl, hq⟩
 refine ⟨by simp [Tryz.f185], ?_⟩
 simp -dsimp only [Vm.G, zA, zB, zC, zD, zE, zF, q185.1]
 refine call_one (S := fundsSpec) rfl _ GaL.rfl ⟨l, by omega, rfl, fun r h1 hr hs1 => ?_⟩
 have hrl := hr.len
 simp -dsimp only [Vm.G, zA, zB, zC, zD, zE, zF, q185.1]
 refine awp_loop (fun m s h' => ∃ i : Nat, i + m = r.length ∧ h' = h1 ∧ s = mk [(3, .own true 45 4 ((balanceL (r.take (i))).map lnAv)), (7, .own true 45 4 (r.map lnAv)), (8, .v (.int .i64 r.length)), (9, .v (.int .i64 (i : Nat)))])
   r.length _ (le_mk _ ?_) ⟨0, by omega, rfl, rfl⟩ ?_
 · simp only [Vm.D]
   try simp -dsimp only [Vm.G, zA, zB, zC, zD, zE, zF, q185.1]
   repeat' first | exact .refl _ | exact .nil _ _ _ (by decide) | refine ⟨?_, ?_⟩
 · rintro m s h' ⟨i, hi, rfl, rfl⟩
   simp -dsimp only [Vm.G, zA, zB, zC, zD, zE, zF, q185.1]
   refine cond_intro (fun hcc => ?_) (fun hcc => ?_)
   · have hlt : i < r.length := by have := of_decide_eq_true hcc; omega
     have hw := hwN i (by omega)
     have htk := balance_take hlt
     have hbl := balance_len (r.take i)
     rw [zUa] at hbl
     have hgi : (r.map lnAv)[i]? = some (lnAv r[i]) := by simp [hlt]
     generalize r[i] = x at htk hgi
     have hol := owed_len x
     simp -dsimp only [Vm.G, zA, zB, zC, zD, zE, zF, q185.1]
     refine idxO_intro (by omega) (by simp; omega) ?_
     simp -dsimp only [Vm.G, zA, zB, zC, zD, zE, zF, q185.1, zXa]
     refine eltA_intro hgi ?_
     simp only [lnAv, lnCells]
     simp -dsimp only [Vm.G, zA, zB, zC, zD, zE, zF, q185.1, AV.cells, zVa]
     refine call_one (S := owedSpec) rfl _ GaL.rfl ⟨x, rfl, fun h3 => ?_, fun h3 => ?_, fun h3 => ?_⟩
     · simp -dsimp only [Vm.G, zA, zB, zC, zD, zE, zF, q185.1]
       refine app_sl Tryz.underlying33 (fun c hc => by obtain ⟨y, -, rfl⟩ := zPb.1 hc; rfl) (by simp only [zKa]; omega) ?_
       simp -dsimp only [Vm.G, zA, zB, zC, zD, zE, zF, q185.1]
       refine kept_intro ⟨r.length - (i + 1), by omega, _, le_mk [(3, .own true 45 4 ((balanceL (r.take (i + 1))).map lnAv)), (7, .own true 45 4 (r.map lnAv)), (8, .v (.int .i64 r.length)), (9, .v (.int .i64 (i + 1 : Nat)))] ?_, i + 1, by omega, rfl, rfl⟩
       simp only [Vm.D, hw, htk, zJa]
       try simp -dsimp only [Vm.G, zA, zB, zC, zD, zE, zF, q185.1, hw, htk, zJa]
       repeat' first | exact .refl _ | exact .nil _ _ _ (by decide) | refine ⟨?_, ?_⟩
     · simp -dsimp only [Vm.G, zA, zB, zC, zD, zE, zF, q185.1]
       refine app_sl Tryz.underlying33 (fun c hc => by obtain ⟨y, -, rfl⟩ := zPb.1 hc; rfl) (by simp only [zKa]; omega) ?_
       simp -dsimp only [Vm.G, zA, zB, zC, zD, zE, zF, q185.1]
       refine kept_intro ⟨r.length - (i + 1), by omega, _, le_mk [(3, .own true 45 4 ((balanceL (r.take (i + 1))).map lnAv)), (7, .own true 45 4 (r.map lnAv)), (8, .v (.int .i64 r.length)), (9, .v (.int .i64 (i + 1 : Nat)))] ?_, i + 1, by omega, rfl, rfl⟩
       simp only [Vm.D, hw, htk, zJa]
       try simp -dsimp only [Vm.G, zA, zB, zC, zD, zE, zF, q185.1, hw, htk, zJa]
       repeat' first | exact .refl _ | exact .nil _ _ _ (by decide) | refine ⟨?_, ?_⟩
     · simp -dsimp only [Vm.G, zA, zB, zC, zD, zE, zF, q185.1]
       refine app_sl Tryz.underlying33 (fun c hc => by obtain ⟨y, -, rfl⟩ := zPb.1 hc; rfl) (by simp only [zKa]; omega) ?_
       simp -dsimp only [Vm.G, zA, zB, zC, zD, zE, zF, q185.1]
       refine kept_intro ⟨r.length - (i + 1), by omega, _, le_mk [(3, .own true 45 4 ((balanceL (r.take (i + 1))).map lnAv)), (7, .own true 45 4 (r.map lnAv)), (8, .v (.int .i64 r.length)), (9, .v (.int .i64 (i + 1 : Nat)))] ?_, i + 1, by omega, rfl, rfl⟩
       simp only [Vm.D, hw, htk, zJa]
       try simp -dsimp only [Vm.G, zA, zB, zC, zD, zE, zF, q185.1, hw, htk, zJa]
       repeat' first | exact .refl _ | exact .nil _ _ _ (by decide) | refine ⟨?_, ?_⟩
   · have hge : ¬ i < r.length := by have := of_decide_eq_false hcc; omega
     rw [zSa (by omega)]
     simp -dsimp only [Vm.G, zA, zB, zC, zD, zE, zF, q185.1]
     exact hq r _ hr hs1
def allLSpec : Vm.Spec := fun args h Q => ∃ l : List Ln, 1 ≤ l.length ∧ l.length ≤ 4096 ∧ args = [.sl 4 (l.map lnAv)] ∧ ∀ r h', IsFunds l r → Same h h' [] → Q (.own true 45 4 ((l ++ balanceL r).map lnAv)) h'
theorem does_allL : Does Tryz.prog 129 allLSpec := by
 refine dA (good_cons does_balance (good_cons does_concatLn good_nil)) Tryz.func129 rfl (by decide +kernel) ?_
 rintro args h Q ⟨l, hl1, hl2, rfl, hq⟩
 refine ⟨by simp [Tryz.f129], ?_⟩
 simp -dsimp only [Vm.G, zA, zB, zC, zD, zE, zF, q129.1]
 refine call_one (S := balanceSpec) rfl _ GaL.rfl ⟨l, by omega, rfl, fun r h1 hr hs1 => ?_⟩
 have hbl := balance_len r
 have hrl := hr.len
 simp -dsimp only [Vm.G, zA, zB, zC, zD, zE, zF, q129.1]
 refine bs_intro zr33 (by decide) (by decide) rfl rfl (by simp [solid, AV.cells]) ?_
 simp -dsimp only [Vm.G, zA, zB, zC, zD, zE, zF, q129.1]
 refine call_one (S := concatSpec) rfl _ GaL.rfl ⟨[l, balanceL r], by simp, by simp; omega, by simp; omega, rfl, ?_⟩
 simp -dsimp only [Vm.G, zA, zB, zC, zD, zE, zF, q129.1]
 have e : [l, balanceL r].flatten = l ++ balanceL r := by simp
 rw [e]
 exact hq r h1 hr hs1
end Go.Proofs.Lx
namespace Go.Proofs.Lx
open Go.Vm
attribute [local irreducible] awpArr awpBin awpMake awpAppend awpCvX awpStrOf awpBinX awpSlice awpBS awpStore awpAlloc awpCopy awpIndex awpDraw awpIdxX awpFa awpField awpLookup awpUpdate awpDelete awpClear awpRange awpNext awpEntry awpBuild awpClearS awpIdxL awpTree appB awpIdxO eltA treeA
def standSpec : Vm.Spec := fun args h Q => ∃ (V : VId) (f : Fun) (e : En) (all : List Ln), e.ok ∧ (∀ x ∈ all, x.ok) ∧ all.length ≤ 1048576 ∧ args = [.agg [.ptr V.iv 0], .agg (enCells e), .sl 4 (all.map lnAv)] ∧ isView h V f ∧
 ∀ h', isView h' V (standF f e.year e.kind e.of' all).1 → Same h h' [V.ic] → Q (.tup [.v (.int .i64 (standF f e.year e.kind e.of' all).2.1), .v (.int .i64 (standF f e.year e.kind e.of' all).2.2)]) h'
theorem post_cons (y id : Int) (i : Nat) (x : Ln) (r : List Ln) (f : Fun) : postL y id i (x :: r) f = if (balAdd (upd f (jK id i) (some (jV x))) (balK y x.fund x.obj) x.amt).2 ≠ 0 then balAdd (upd f (jK id i) (some (jV x))) (balK y x.fund x.obj) x.amt
   else postL y id (i + 1) r (balAdd (upd f (jK id i) (some (jV x))) (balK y x.fund x.obj) x.amt).1 := rfl
theorem does_stand : Does Tryz.prog 128 standSpec := by
 refine dA (good_cons does_yCheck (good_cons does_seqNext (good_cons does_post (good_cons does_recEn (good_cons does_jset good_nil))))) Tryz.func128 rfl (by decide +kernel) ?_
 rintro args h Q ⟨V, f, e, all, heo, hao, hal, rfl, hV, hq⟩
 refine ⟨by simp [Tryz.f128], ?_⟩
 rcases e with ⟨eid, y, kind, elines, of', eby⟩
 rcases heo with ⟨o1, o2, o3, o4, o5, o6⟩
 simp only at hq o1 o2 o3 o4 o5 o6
 simp only [enCells]
 simp -dsimp only [Vm.G, zA, zB, zC, zD, zE, zF, q128.1]
 refine call_one (S := yCheckSpec) rfl _ GaL.rfl ⟨V, f, y, rfl, hV, ?_⟩
 have h0 := zIa (checkY f y != 0)
 rcases h0 with c | c
 · have d : checkY f y ≠ 0 := by simpa using c
   have hsf : standF f y kind of' all = (f, 0, checkY f y) := by unfold standF; rw [if_pos d]
   rw [hsf] at hq
   simp -dsimp only [Vm.G, zA, zB, zC, zD, zE, zF, q128.1, c]
   exact hq h hV (.refl _ _)
 · have d : ¬ checkY f y ≠ 0 := by simpa using c
   simp -dsimp only [Vm.G, zA, zB, zC, zD, zE, zF, q128.1, c]
   refine call_one (S := seqNextSpec) rfl _ GaL.rfl ⟨V, f, 1, rfl, hV, fun hb => ?_, fun hb h1 hV1 hs1 => ?_⟩
   · have hsf : standF f y kind of' all = (f, 0, 9) := by unfold standF; rw [if_neg d, if_pos hb]
     rw [hsf] at hq
     simp -dsimp only [Vm.G, zA, zB, zC, zD, zE, zF, q128.1]
     exact hq h hV (.refl _ _)
   · have hsf : standF f y kind of' all = if (postL y (readOf f (seqKey 1) + 1) 0 all (upd f (seqKey 1) (some (be 8 (readOf f (seqKey 1) + 1))))).2 ≠ 0 then
         ((postL y (readOf f (seqKey 1) + 1) 0 all (upd f (seqKey 1) (some (be 8 (readOf f (seqKey 1) + 1))))).1, 0, (postL y (readOf f (seqKey 1) + 1) 0 all (upd f (seqKey 1) (some (be 8 (readOf f (seqKey 1) + 1))))).2)
         else (upd (postL y (readOf f (seqKey 1) + 1) 0 all (upd f (seqKey 1) (some (be 8 (readOf f (seqKey 1) + 1))))).1 (enK (readOf f (seqKey 1) + 1)) (some (enV y kind all.length of' 0)), readOf f (seqKey 1) + 1, 0) := by
       unfold standF; rw [if_neg d, if_neg hb]
     rw [hsf] at hq
     have hid : I64 (readOf f (seqKey 1) + 1) := by unfold I64; omega
     clear hsf d hb c
     generalize readOf f (seqKey 1) + 1 = id at hq hid hV1 ⊢
     generalize upd f (seqKey 1) (some (be 8 id)) = f1 at hq hV1
     simp -dsimp only [Vm.G, zA, zB, zC, zD, zE, zF, q128.1, bne_self_eq_false]
     refine awp_loop (fun m s h' => ∃ (i : Nat) (f2 : Fun), i + m = all.length ∧ isView h' V f2 ∧ Same h h' [V.ic] ∧ postL y id 0 all f1 = postL y id i (all.drop i) f2 ∧ s = mk [(2, .sl 4 (all.map lnAv)), (3, .box [.ptr V.iv 0]), (4, .box [.v (.int .i64 eid), .v (.int .i64 y), .v (.int .i64 kind), .v (.int .i64 elines), .v (.int .i64 of'), .v (.int .i64 eby)]), (9, .v (.int .i64 id)), (32, .sl 4 (all.map lnAv)), (33, .v (.int .i64 all.length)), (34, .v (.int .i64 (i : Nat)))])
       all.length _ (le_mk _ ?_) ⟨0, f1, by omega, hV1, hs1, by rw [zVa], rfl⟩ ?_
     · simp only [Vm.D]
       try simp -dsimp only [Vm.G, zA, zB, zC, zD, zE, zF, q128.1]
       repeat' first | exact .refl _ | exact .nil _ _ _ (by decide) | refine ⟨?_, ?_⟩
     · rintro m s h' ⟨i, f2, hi, hV2, hs2, hp, rfl⟩
       simp -dsimp only [Vm.G, zA, zB, zC, zD, zE, zF, q128.1]
       refine cond_intro (fun hcc => ?_) (fun hcc => ?_)
       · have hlt : i < all.length := by have := of_decide_eq_true hcc; omega
         have hw := hwN i (by omega)
         have hxo := hao all[i] (zKb hlt)
         have hxe : ∃ x, all[i] = x := ⟨_, rfl⟩
         rcases hxe with ⟨x, hx⟩
         rw [hx] at hxo
         rw [zWa hlt, hx, post_cons] at hp
         simp -dsimp only [Vm.G, zA, zB, zC, zD, zE, zF, q128.1]
         refine idx_map lnAv all i hlt ?_
         simp only [hx, lnAv, lnCells]
         simp -dsimp only [Vm.G, zA, zB, zC, zD, zE, zF, q128.1, AV.cells]
         refine call_one (S := postSpec) rfl _ GaL.rfl ⟨V, f2, y, id, i, x, hid, by unfold I64; omega, hxo, rfl, hV2, fun h3 g1 g2 => ?_⟩
         generalize balAdd (upd f2 (jK id i) (some (jV x))) (balK y x.fund x.obj) x.amt = q at hp g1 ⊢
         rcases q with ⟨f3, qe⟩
         simp only at hp g1 ⊢
         have h0 := zIa (qe != 0)
         rcases h0 with c | c
         · have d : qe ≠ 0 := by simpa using c
           rw [if_pos d] at hp
           rw [hp, if_pos d] at hq
           simp -dsimp only [Vm.G, zA, zB, zC, zD, zE, zF, q128.1, c]
           exact hq h3 g1 (hs2.trans g2)
         · have d : ¬ qe ≠ 0 := by simpa using c
           rw [if_neg d] at hp
           simp -dsimp only [Vm.G, zA, zB, zC, zD, zE, zF, q128.1, c]
           refine kept_intro ⟨all.length - (i + 1), by omega, _, le_mk [(2, .sl 4 (all.map lnAv)), (3, .box [.ptr V.iv 0]), (4, .box [.v (.int .i64 eid), .v (.int .i64 y), .v (.int .i64 kind), .v (.int .i64 elines), .v (.int .i64 of'), .v (.int .i64 eby)]), (9, .v (.int .i64 id)), (32, .sl 4 (all.map lnAv)), (33, .v (.int .i64 all.length)), (34, .v (.int .i64 (i + 1 : Nat)))] ?_, i + 1, f3, by omega, g1, hs2.trans g2, hp, rfl⟩
           simp only [Vm.D, hw]
           try simp -dsimp only [Vm.G, zA, zB, zC, zD, zE, zF, q128.1, hw]
           repeat' first | exact .refl _ | exact .nil _ _ _ (by decide) | refine ⟨?_, ?_⟩
       · have hge : ¬ i < all.length := by have := of_decide_eq_false hcc; omega
         rw [List.drop_eq_nil_of_le (by omega)] at hp
         have hp2 : postL y id 0 all f1 = (f2, 0) := hp
         rw [hp2] at hq
         simp only [ne_eq, not_true, if_false] at hq
         have hal2 : I64 (all.length : Int) := by unfold I64; omega
         clear hcc hp hp2
         simp -dsimp only [Vm.G, zA, zB, zC, zD, zE, zF, q128.1]
         refine draw_cont [3, 4] (.take 0 (.take 1 (.alt 2 (.alt 3 (.alt 4 (.done) .stop) .stop) .stop))) (fun s h3 => isView h3 V (upd f2 (enK id) (some (enV y kind all.length of' 0))) ∧ Same h h3 [V.ic] ∧ s 14 = .v (.int .i64 0) ∧ s 9 = .v (.int .i64 id)) (by kernel_rfl) (by kernel_rfl) (by kernel_rfl) (by decide) ?_ ?_
         · clear hq
           simp -dsimp only [Vm.G, zA, zB, zC, zD, zE, zF, q128.1, AV.cells]
           refine call_one (S := renSpec) rfl _ GaL.rfl ⟨⟨id, y, kind, all.length, of', 0⟩, ⟨hid, o2, o3, hal2, o5, show I64 0 by unfold I64; omega⟩, rfl, ?_⟩
           simp -dsimp only [Vm.G, zA, zB, zC, zD, zE, zF, q128.1]
           refine call_one (S := dsetSpec) rfl _ GaL.rfl ⟨V, f2, enK id, enV y kind all.length of' 0, rfl, right_en _ _ _ _ _ _, hV2, fun h3 g1 g2 => ?_⟩
           simp -dsimp only [Vm.G, zA, zB, zC, zD, zE, zF, q128.1]
           refine ⟨g1, hs2.trans g2, ?_⟩
           repeat' first | rfl | exact True.intro | refine And.intro ?_ ?_
         · rintro s h3 ⟨g1, g2, e14, e9⟩
           simp -dsimp only [Vm.G, zA, zB, zC, zD, zE, zF, q128.1, e14, e9, bne_self_eq_false]
           exact hq h3 g1 g2
def entrySpec : Vm.Spec := fun args h Q => ∃ (V : VId) (f : Fun) (e : En) (l : List Ln), e.ok ∧ (∀ x ∈ l, x.ok) ∧ l.length ≤ 1048576 ∧ args = [.ptr V.iv 0, .agg (enCells e), .sl 4 (l.map lnAv)] ∧ isView h V f ∧
 (l.length = 0 ∨ 200 < l.length → Q (.tup [.v (.int .i64 0), .v (.int .i64 1)]) h) ∧
 (¬ (l.length = 0 ∨ 200 < l.length) → ∀ r h', IsFunds l r → isView h' V (standF f e.year e.kind e.of' (l ++ balanceL r)).1 → Same h h' [V.ic] → Q (.tup [.v (.int .i64 (standF f e.year e.kind e.of' (l ++ balanceL r)).2.1), .v (.int .i64 (standF f e.year e.kind e.of' (l ++ balanceL r)).2.2)]) h')
theorem balance_ok {r : List Ln} {l : List Ln} (hr : IsFunds l r) (hl : ∀ x ∈ l, x.ok) : ∀ x ∈ balanceL r, x.ok := fun x hx => by
 obtain ⟨y, hy, hxy⟩ := List.mem_flatMap.1 hx
 obtain ⟨⟨z, hz, e1⟩, e2⟩ := (hr.2 y).1 hy
 have hf : I64 y.fund := by rw [← e1]; exact (hl z hz).1
 unfold owedL at hxy
 split at hxy
 · rw [List.mem_singleton] at hxy; subst hxy
   exact ⟨hf, show I64 2900 by unfold I64; omega, show I64 0 by unfold I64; omega, w64_range _⟩
 · split at hxy
   · rw [List.mem_singleton] at hxy; subst hxy
     exact ⟨hf, show I64 1900 by unfold I64; omega, show I64 0 by unfold I64; omega, w64_range _⟩
   · simp at hxy
theorem does_entry : Does Tryz.prog 73 entrySpec := by
 refine dA (good_cons does_allL (good_cons does_stand good_nil)) Tryz.func73 rfl (by decide +kernel) ?_
 rintro args h Q ⟨V, f, e, l, heo, hlo, hl, rfl, hV, hq1, hq2⟩
 refine ⟨by simp [Tryz.f73], ?_⟩
 have h0 := zIa ((l.length : Int) == 0)
 rcases h0 with c | c
 · have d : l.length = 0 := by
     have : (l.length : Int) = 0 := by simpa using c
     omega
   simp only [enCells]
   simp -dsimp only [Vm.G, zA, zB, zC, zD, zE, zF, q73.1, c]
   exact hq1 (.inl d)
 · have d : ¬ l.length = 0 := by
     have : ¬ (l.length : Int) = 0 := by simpa using c
     omega
   have h0 := zIa (decide ((l.length : Int) > 200))
   rcases h0 with c2 | c2
   · have d2 : 200 < l.length := by have := of_decide_eq_true c2; omega
     simp only [enCells]
     simp -dsimp only [Vm.G, zA, zB, zC, zD, zE, zF, q73.1, c, c2]
     exact hq1 (.inr d2)
   · have d2 : ¬ 200 < l.length := by have := of_decide_eq_false c2; omega
     have hq := hq2 (by omega)
     clear hq1 hq2
     rcases e with ⟨eid, y, kind, elines, of', eby⟩
     simp only at hq
     simp only [enCells]
     simp -dsimp only [Vm.G, zA, zB, zC, zD, zE, zF, q73.1, c, c2]
     refine draw_cont [4] (.take 0 (.take 2 (.take 3 (.alt 1 (.alt 4 (.alt 5 (.take 6 (.take 7 (.alt 8 (.alt 9 (.done) .stop) .stop))) .stop) .stop) (.alt 4 (.alt 1 (.alt 5 (.take 6 (.take 7 (.alt 8 (.alt 9 (.done) .stop) .stop))) .stop) .stop) (.stop)))))) (fun s h' => ∃ (r : List Ln), IsFunds l r ∧ isView h' V (standF f y kind of' (l ++ balanceL r)).1 ∧ Same h h' [V.ic] ∧ s 6 = .v (.int .i64 (standF f y kind of' (l ++ balanceL r)).2.1) ∧ s 7 = .v (.int .i64 (standF f y kind of' (l ++ balanceL r)).2.2)) (by kernel_rfl) (by kernel_rfl) (by kernel_rfl) (by decide) ?_ ?_
     · clear hq
       have hallok : ∀ r, IsFunds l r → ∀ x ∈ l ++ balanceL r, x.ok := fun r hr x hx => by
         rcases List.mem_append.1 hx with hx | hx
         · exact hlo x hx
         · exact balance_ok hr hlo x hx
       have hsame : ∀ {h1 h2 : Heap}, Same h h1 [] → Same h1 h2 [V.ic] → Same h h2 [V.ic] := fun {h1 h2} a b => ⟨Nat.le_trans a.1 b.1, fun j hj hm => by
         rw [b.2 j (Nat.lt_of_lt_of_le hj a.1) hm, a.2 j hj (by simp)]⟩
       repeat' first
         | with_reducible exact True.intro
         | simp -dsimp only [Vm.G, zA, zB, zC, zD, zE, zF, q73.1]
         | (refine call_one (S := allLSpec) rfl _ GaL.rfl ⟨l, by omega, by omega, rfl, fun r h1 hr hs1 => ?_⟩
            have hbl := balance_len r
            have hrl := hr.len
            have hV1 := hV.same hs1 (by simp))
         | refine call_one (S := standSpec) rfl _ GaL.rfl ⟨V, f, ⟨eid, y, kind, elines, of', eby⟩, l ++ balanceL r, heo, hallok r hr, by rw [zQa]; omega, rfl, hV1, fun h2 g1 g2 => ?_⟩
         | refine tree_alt ?_ ?_
         | refine ⟨r, hr, g1, hsame hs1 g2, ?_⟩
         | repeat' first | rfl | exact True.intro | refine And.intro ?_ ?_
     · rintro s h' ⟨r, hr, g1, g2, e6, e7⟩
       simp -dsimp only [Vm.G, zA, zB, zC, zD, zE, zF, q73.1, e6, e7]
       exact hq r h' hr g1 g2
abbrev ordAv (V : VId) (year frm : Int) : AV := .agg [.ptr V.iv 0, .v (.int .i64 year), .v (.int .i64 frm)]
def etakeSpec : Vm.Spec := fun args h Q => ∃ (V : VId) (f : Fun) (year frm : Int) (x : Ln), I64 frm ∧ x.ok ∧ args = [ordAv V year frm, lnAv x] ∧ isView h V f ∧
 ∀ h', isView h' V (takeOne f frm x).1 → Same h h' [V.ic] → Q (.tup [dlAv (takeOne f frm x).2.1, .v (.int .i64 (takeOne f frm x).2.2)]) h'
theorem does_etake : Does Tryz.prog 124 etakeSpec := by
 refine dA (good_cons does_docsGet (good_cons does_docsOpen (good_cons does_docsSet good_nil))) Tryz.func124 rfl (by decide +kernel) ?_
 rintro args h Q ⟨V, f, year, frm, x, hfr, hx, rfl, hV, hq⟩
 refine ⟨by simp [Tryz.f124], ?_⟩
 unfold takeOne at hq
 simp only [lnAv, lnCells]
 simp -dsimp only [Vm.G, zA, zB, zC, zD, zE, zF, q124.1]
 refine call_one (S := docsGetSpec) rfl _ GaL.rfl ⟨V, f, frm, rfl, hV, fun d own hd hl6 hdl => ?_, fun hn => ?_⟩
 · have ho := ownAt_some hd
   rw [ho] at hq
   simp only [dcCells]
   simp -dsimp only [Vm.G, zA, zB, zC, zD, zE, zF, q124.1]
   have h1 := zIa (decide (x.node < 0))
   rcases h1 with c1 | c1
   · have d1 := of_decide_eq_true c1
     simp only [if_pos d1] at hq
     simp only [dlAv, dlCells, Dl.zero] at hq
     simp -dsimp only [Vm.G, zA, zB, zC, zD, zE, zF, q124.1, c1]
     exact hq h hV (.refl _ _)
   · have d1 := of_decide_eq_false c1
     simp only [if_neg d1] at hq
     simp -dsimp only [Vm.G, zA, zB, zC, zD, zE, zF, q124.1, c1]
     have h2 := zIa (decide (x.node ≥ (own.length : Int)))
     rcases h2 with c2 | c2
     · have d2 := of_decide_eq_true c2
       rw [zJb (by omega)] at hq
       simp only [dlAv, dlCells, Dl.zero] at hq
       simp -dsimp only [Vm.G, zA, zB, zC, zD, zE, zF, q124.1, c2]
       exact hq h hV (.refl _ _)
     · have d2 := of_decide_eq_false c2
       have hlt : x.node.toNat < own.length := by omega
       have hye : ∃ y, own[x.node.toNat]? = some y := ⟨_, zRa hlt⟩
       rcases hye with ⟨y, hy⟩
       have hyo := docAt_ok hd y (List.mem_of_getElem? hy)
       have hgi : (own.map dlAv)[x.node.toNat]? = some (dlAv y) := by rw [zSb, hy]; rfl
       rw [hy] at hq
       simp only at hq
       have hds := docsSet_own (f := f) (id := frm) (i := x.node) { y with liq := w64 (y.liq + x.amt) } (by omega) (by rw [ho]; omega)
       simp -dsimp only [Vm.G, zA, zB, zC, zD, zE, zF, q124.1, c2]
       refine idxO_intro (xs := own.map dlAv) (by omega) (by simp; omega) ?_
       simp -dsimp only [Vm.G, zA, zB, zC, zD, zE, zF, q124.1]
       refine eltA_intro (xs := own.map dlAv) hgi ?_
       simp only [dlAv, dlCells]
       simp -dsimp only [Vm.G, zA, zB, zC, zD, zE, zF, q124.1, AV.cells, zVa]
       refine draw_cont [3] (.take 2 (.take 3 (.alt 0 (.alt 1 (.take 4 (.done)) .stop) .stop))) (fun s h2 => h2 = h ∧ s 40 = .v (.bool (decide (openD y < x.amt))) ∧ s 2 = .box [.ptr V.iv 0, .v (.int .i64 year), .v (.int .i64 frm)] ∧ s 3 = .eptr [.v (.int .i64 x.fund), .v (.int .i64 x.obj), .v (.int .i64 x.node), .v (.int .i64 x.amt)] ∧ s 4 = .box [.v (.int .i64 0), .v (.int .i64 0), .v (.int .i64 0), .v (.int .i64 0)] ∧ s 9 = .box [.v (.int .i64 y.node), .v (.int .i64 y.orig), .v (.int .i64 y.liq), .v (.int .i64 y.can)]) (by kernel_rfl) (by kernel_rfl) (by kernel_rfl) (by decide) ?_ ?_
       · clear hq
         simp -dsimp only [Vm.G, zA, zB, zC, zD, zE, zF, q124.1]
         refine call_one (S := openDSpec) rfl _ GaL.rfl ⟨y, rfl, ?_⟩
         simp -dsimp only [Vm.G, zA, zB, zC, zD, zE, zF, q124.1]
         repeat' first | rfl | exact True.intro | refine And.intro ?_ ?_
       · rintro s h2 ⟨rfl, e40, e2, e3, e4, e9⟩
         have h3 := zIa (decide (openD y < x.amt))
         rcases h3 with c3 | c3
         · have d3 := of_decide_eq_true c3
           simp only [if_pos d3] at hq
           simp only [dlAv, dlCells, Dl.zero] at hq
           simp -dsimp only [Vm.G, zA, zB, zC, zD, zE, zF, q124.1, e40, e2, e3, e4, e9, c3]
           exact hq h2 hV (.refl _ _)
         · have d3 := of_decide_eq_false c3
           simp only [if_neg d3] at hq
           simp only [dlAv, dlCells] at hq
           have hy2 : Dl.ok { y with liq := w64 (y.liq + x.amt) } := ⟨hyo.1, hyo.2.1, w64_range _, hyo.2.2.2⟩
           simp -dsimp only [Vm.G, zA, zB, zC, zD, zE, zF, q124.1, e40, e2, e3, e4, e9, c3]
           refine call_one (S := docsSetSpec) rfl _ GaL.rfl ⟨V, f, frm, x.node, { y with liq := w64 (y.liq + x.amt) }, hfr, hx.2.2.1, hy2, rfl, hV, fun h3 g1 g2 => ?_⟩
           rw [hds] at g1 ⊢
           simp only at g1 ⊢
           simp -dsimp only [Vm.G, zA, zB, zC, zD, zE, zF, q124.1, e40, e2, e3, e4, e9, bne_self_eq_false]
           exact hq h3 g1 g2
 · have ho := ownAt_none hn
   rw [ho] at hq
   simp only [dcCells, Dc.zero]
   simp -dsimp only [Vm.G, zA, zB, zC, zD, zE, zF, q124.1]
   have h1 := zIa (decide (x.node < 0))
   rcases h1 with c1 | c1
   · have d1 := of_decide_eq_true c1
     simp only [if_pos d1] at hq
     simp only [dlAv, dlCells, Dl.zero] at hq
     simp -dsimp only [Vm.G, zA, zB, zC, zD, zE, zF, q124.1, c1]
     exact hq h hV (.refl _ _)
   · have d1 := of_decide_eq_false c1
     simp only [if_neg d1, List.getElem?_nil] at hq
     simp only [dlAv, dlCells, Dl.zero] at hq
     have c2 : decide (x.node ≥ 0) = true := decide_eq_true (by omega)
     simp -dsimp only [Vm.G, zA, zB, zC, zD, zE, zF, q124.1, c1, c2]
     exact hq h hV (.refl _ _)
def takeAns (q : Fun × List Dl × Int) (Q : AV → Heap → Prop) (h' : Heap) : Prop :=
 (q.2.2 = 0 → Q (.otup 0 true 47 4 (q.2.1.map dlAv) [.any, .v (.int .i64 0)]) h') ∧ (q.2.2 ≠ 0 → Q (.tup [.v (.slice none 0 0), .v (.int .i64 q.2.2)]) h')
def takeSpec : Vm.Spec := fun args h Q => ∃ (V : VId) (f : Fun) (kind year frm : Int) (l : List Ln), I64 frm ∧ (∀ x ∈ l, x.ok) ∧ l.length ≤ 1073741824 ∧ args = [.ptr V.iv 0, .v (.int .i64 kind), .v (.int .i64 year), .v (.int .i64 frm), .sl 4 (l.map lnAv)] ∧ isView h V f ∧
 ∀ h', isView h' V (takeOf f kind year frm l).1 → Same h h' [V.ic] → takeAns (takeOf f kind year frm l) Q h'
attribute [local irreducible] takeOne takeL
theorem does_take : Does Tryz.prog 71 takeSpec := by
 refine does_of_awpO 0 (good_cons does_docsGet (good_cons does_etake good_nil)) Tryz.func71 rfl (by decide +kernel) (by decide +kernel) ?_
 rintro args h Q ⟨V, f, kind, year, frm, l, hfr, hok, hl, rfl, hV, hq⟩
 refine ⟨by simp [Tryz.f71], ?_⟩
 rw [awpFuncO_some (by rfl)]
 unfold takeOf at hq
 simp -dsimp only [Vm.G, zA, zB, zC, zD, zE, zF, q71.1]
 refine call_one (S := docsGetSpec) rfl _ GaL.rfl ⟨V, f, frm, rfl, hV, fun d own hd hl6 hdl => ?_, fun hn => ?_⟩
 · rw [hd] at hq
   simp only at hq
   simp only [dcCells]
   simp -dsimp only [Vm.G, zA, zB, zC, zD, zE, zF, q71.1]
   have h1 := zIa (d.kind != kind)
   rcases h1 with c1 | c1
   · have d1 : d.kind ≠ kind := by simpa using c1
     rw [if_pos (.inl d1)] at hq
     have hq' := (hq h hV (.refl _ _)).2 (show (12 : Int) ≠ 0 by decide)
     simp -dsimp only [Vm.G, zA, zB, zC, zD, zE, zF, q71.1, c1]
     exact hq'
   · have d1 : ¬ d.kind ≠ kind := by simpa using c1
     simp -dsimp only [Vm.G, zA, zB, zC, zD, zE, zF, q71.1, c1]
     have h2 := zIa (d.year != year)
     rcases h2 with c2 | c2
     · have d2 : d.year ≠ year := by simpa using c2
       rw [if_pos (.inr d2)] at hq
       have hq' := (hq h hV (.refl _ _)).2 (show (12 : Int) ≠ 0 by decide)
       simp -dsimp only [Vm.G, zA, zB, zC, zD, zE, zF, q71.1, c2]
       exact hq'
     · have d2 : ¬ d.year ≠ year := by simpa using c2
       rw [if_neg (fun h => h.elim d1 d2)] at hq
       simp -dsimp only [Vm.G, zA, zB, zC, zD, zE, zF, q71.1, c2]
       refine awp_loop (fun m s h' => ∃ (i : Nat) (g : Fun) (out : List Dl), i + m = l.length ∧ out.length ≤ i ∧ isView h' V g ∧ Same h h' [V.ic] ∧ takeL frm (l.drop i) g out = takeL frm l f [] ∧ s = mk [(15, .box [.ptr V.iv 0, .v (.int .i64 year), .v (.int .i64 frm)]), (16, .own true 47 4 ((out).map dlAv)), (44, .sl 4 (l.map lnAv)), (45, .v (.int .i64 l.length)), (46, .v (.int .i64 (i : Nat)))])
         l.length _ (le_mk _ ?_) ⟨0, f, [], by omega, by simp, hV, .refl _ _, rfl, rfl⟩ ?_
       · simp only [Vm.D]
         try simp -dsimp only [Vm.G, zA, zB, zC, zD, zE, zF, q71.1]
         repeat' first | exact .refl _ | exact .nil _ _ _ (by decide) | refine ⟨?_, ?_⟩
       · clear hV
         rintro m s h' ⟨i, g, out, hi, hol, hV, hsm, hp, rfl⟩
         simp -dsimp only [Vm.G, zA, zB, zC, zD, zE, zF, q71.1]
         refine cond_intro (fun hcc => ?_) (fun hcc => ?_)
         · have hlt : i < l.length := by have := of_decide_eq_true hcc; omega
           have hw := hwN i (by omega)
           have hox := hok l[i] (zKb hlt)
           rw [zWa hlt] at hp
           have hxe : ∃ x, l[i] = x := ⟨_, rfl⟩
           rcases hxe with ⟨x, hx⟩
           rw [hx] at hp hox
           simp -dsimp only [Vm.G, zA, zB, zC, zD, zE, zF, q71.1]
           refine idx_map lnAv l i hlt ?_
           simp only [hx, lnAv, lnCells]
           simp -dsimp only [Vm.G, zA, zB, zC, zD, zE, zF, q71.1, AV.cells]
           refine call_one (S := etakeSpec) rfl _ GaL.rfl ⟨V, g, year, frm, x, hfr, hox, rfl, hV, fun h2 g1 g2 => ?_⟩
           rw [takeL_cons] at hp
           generalize takeOne g frm x = q at hp g1 ⊢
           rcases q with ⟨qf, qd, qe⟩
           simp only at hp g1 ⊢
           simp only [dlAv, dlCells]
           simp -dsimp only [Vm.G, zA, zB, zC, zD, zE, zF, q71.1]
           have h3 := zIa (qe != 0)
           rcases h3 with c3 | c3
           · have d3 : qe ≠ 0 := by simpa using c3
             rw [if_pos d3] at hp
             rw [← hp] at hq
             have hq' := (hq h2 g1 (hsm.trans g2)).2 d3
             simp -dsimp only [Vm.G, zA, zB, zC, zD, zE, zF, q71.1, c3]
             exact hq'
           · have d3 : ¬ qe ≠ 0 := by simpa using c3
             rw [if_neg d3] at hp
             simp -dsimp only [Vm.G, zA, zB, zC, zD, zE, zF, q71.1, c3]
             refine bs_intro zr47 (by decide) (by decide) rfl rfl (by simp [solid, AV.cells]) ?_
             simp -dsimp only [Vm.G, zA, zB, zC, zD, zE, zF, q71.1]
             refine app_sl Tryz.underlying43 (by simp [AV.cells]) (by simp only [zKa, zNa, zOa]; omega) ?_
             simp -dsimp only [Vm.G, zA, zB, zC, zD, zE, zF, q71.1]
             refine kept_intro ⟨l.length - (i + 1), by omega, _, le_mk [(15, .box [.ptr V.iv 0, .v (.int .i64 year), .v (.int .i64 frm)]), (16, .own true 47 4 ((out ++ [qd]).map dlAv)), (44, .sl 4 (l.map lnAv)), (45, .v (.int .i64 l.length)), (46, .v (.int .i64 (i + 1 : Nat)))] ?_, i + 1, qf, out ++ [qd], by omega, by rw [zQa, List.length_singleton]; omega, g1, hsm.trans g2, hp, rfl⟩
             simp only [Vm.D, hw, dlAv, dlCells, zJa, zLa, zMa]
             try simp -dsimp only [Vm.G, zA, zB, zC, zD, zE, zF, q71.1, hw, dlAv, dlCells, zJa, zLa, zMa]
             repeat' first | exact .refl _ | exact .nil _ _ _ (by decide) | refine ⟨?_, ?_⟩
         · have hge : ¬ i < l.length := by have := of_decide_eq_false hcc; omega
           rw [zMb (by omega)] at hp
           have hp : (g, out, (0 : Int)) = takeL frm l f [] := by rw [← hp]; simp only [takeL]
           rw [← hp] at hq
           have hq' := (hq h' hV hsm).1 rfl
           simp -dsimp only [Vm.G, zA, zB, zC, zD, zE, zF, q71.1]
           exact hq'
 · rw [hn] at hq
   have hq' := (hq h hV (.refl _ _)).2 (show (7 : Int) ≠ 0 by decide)
   simp only [dcCells, Dc.zero]
   simp -dsimp only [Vm.G, zA, zB, zC, zD, zE, zF, q71.1]
   exact hq'
def elinesSpec : Vm.Spec := fun args h Q => ∃ (V : VId) (f : Fun) (year frm : Int) (l : List Ln), I64 frm ∧ (∀ x ∈ l, x.ok) ∧ l.length ≤ 1073741824 ∧ args = [ordAv V year frm, .sl 4 (l.map lnAv)] ∧ isView h V f ∧
 ∀ h', isView h' V (linesFrom f year frm l).1 → Same h h' [V.ic] → takeAns (linesFrom f year frm l) Q h'
attribute [local irreducible] takeOf
theorem does_elines : Does Tryz.prog 40 elinesSpec := by
 refine does_of_awpO 0 (good_cons does_take good_nil) Tryz.func40 rfl (by decide +kernel) (by decide +kernel) ?_
 rintro args h Q ⟨V, f, year, frm, l, hfr, hok, hl, rfl, hV, hq⟩
 refine ⟨by simp [Tryz.f40], ?_⟩
 rw [awpFuncO_some (by rfl)]
 unfold linesFrom at hq
 simp -dsimp only [Vm.G, zA, zB, zC, zD, zE, zF, q40.1]
 have h1 := zIa (frm != 0)
 rcases h1 with c1 | c1
 · have d1 : frm ≠ 0 := by simpa using c1
   simp only [if_pos d1] at hq
   simp -dsimp only [Vm.G, zA, zB, zC, zD, zE, zF, q40.1, c1]
   refine call_one (S := takeSpec) rfl _ GaL.rfl ⟨V, f, 1, year, frm, l, hfr, hok, hl, rfl, hV, fun h2 g1 g2 => ?_⟩
   have hq' := hq h2 g1 g2
   generalize takeOf f 1 year frm l = q at hq' ⊢
   rcases q with ⟨qf, qd, qe⟩
   refine ⟨fun he => ?_, fun he => ?_⟩
   · have hq2 := hq'.1 he
     simp -dsimp only [Vm.G, zA, zB, zC, zD, zE, zF, q40.1]
     exact hq2
   · have hq2 := hq'.2 he
     simp -dsimp only [Vm.G, zA, zB, zC, zD, zE, zF, q40.1]
     exact hq2
 · have d1 : ¬ frm ≠ 0 := by simpa using c1
   simp only [if_neg d1] at hq
   have hq' := (hq h hV (.refl _ _)).1 rfl
   clear hq
   simp -dsimp only [Vm.G, zA, zB, zC, zD, zE, zF, q40.1, c1]
   refine awp_loop (fun m s h' => ∃ i : Nat, i + m = l.length ∧ h' = h ∧ s = mk [(6, .own true 47 4 ((ownL (l.take i)).map dlAv)), (22, .sl 4 (l.map lnAv)), (23, .v (.int .i64 l.length)), (24, .v (.int .i64 i))])
     l.length _ (le_mk _ ?_) ⟨0, by omega, rfl, rfl⟩ ?_
   · simp only [Vm.D]
     try simp -dsimp only [Vm.G, zA, zB, zC, zD, zE, zF, q40.1]
     repeat' first | exact .refl _ | exact .nil _ _ _ (by decide) | refine ⟨?_, ?_⟩
   · rintro m s h' ⟨i, hi, rfl, rfl⟩
     simp -dsimp only [Vm.G, zA, zB, zC, zD, zE, zF, q40.1]
     refine cond_intro (fun hcc => ?_) (fun hcc => ?_)
     · have hlt : i < l.length := by have := of_decide_eq_true hcc; omega
       have hw := hwN i (by omega)
       have est : ownL (l.take (i + 1)) = ownL (l.take i) ++ [⟨l[i].node, l[i].amt, 0, 0⟩] := by
         unfold ownL
         rw [zPa hlt, zJa]; rfl
       have hol : (ownL (l.take i)).length ≤ i := by unfold ownL; rw [zKa, zUa]; omega
       simp -dsimp only [Vm.G, zA, zB, zC, zD, zE, zF, q40.1]
       refine idx_map lnAv l i hlt ?_
       generalize l[i] = x at est
       simp only [lnAv, lnCells]
       simp -dsimp only [Vm.G, zA, zB, zC, zD, zE, zF, q40.1, AV.cells]
       refine bs_intro zr47 (by decide) (by decide) rfl rfl (by simp [solid, AV.cells]) ?_
       simp -dsimp only [Vm.G, zA, zB, zC, zD, zE, zF, q40.1]
       refine app_sl Tryz.underlying43 (by simp [AV.cells]) (by simp only [zKa, zNa, zOa]; omega) ?_
       simp -dsimp only [Vm.G, zA, zB, zC, zD, zE, zF, q40.1]
       refine kept_intro ⟨l.length - (i + 1), by omega, _, le_mk [(6, .own true 47 4 ((ownL (l.take (i + 1))).map dlAv)), (22, .sl 4 (l.map lnAv)), (23, .v (.int .i64 l.length)), (24, .v (.int .i64 (i + 1 : Nat)))] ?_, i + 1, by omega, rfl, rfl⟩
       simp only [Vm.D, hw, est, zJa, zLa, zMa, dlAv, dlCells]
       try simp -dsimp only [Vm.G, zA, zB, zC, zD, zE, zF, q40.1, hw, est, zJa, zLa, zMa, dlAv, dlCells]
       repeat' first | exact .refl _ | exact .nil _ _ _ (by decide) | refine ⟨?_, ?_⟩
     · have hge : ¬ i < l.length := by have := of_decide_eq_false hcc; omega
       simp -dsimp only [Vm.G, zA, zB, zC, zD, zE, zF, q40.1]
       rw [zSa (by omega)]
       exact hq'
def echargeSpec : Vm.Spec := fun args h Q => ∃ (V : VId) (f : Fun) (year frm : Int) (l : List Dl), l.length ≤ 1073741824 ∧ args = [ordAv V year frm, .sl 4 (l.map dlAv)] ∧ isView h V f ∧
 ∀ h', isView h' V (chargeG (mkE frm) year l f false).1 → Same h h' [V.ic] → Q (.tup [.v (.bool (chargeG (mkE frm) year l f false).2.1), .v (.int .i64 (chargeG (mkE frm) year l f false).2.2)]) h'
attribute [local irreducible] chargeOf chargeG docsPut
theorem does_echarge : Does Tryz.prog 41 echargeSpec := by
 refine dA (good_cons does_charge good_nil) Tryz.func41 rfl (by decide +kernel) ?_
 rintro args h Q ⟨V, f, year, frm, l, hl, rfl, hV, hq⟩
 refine ⟨by simp [Tryz.f41], ?_⟩
 simp -dsimp only [Vm.G, zA, zB, zC, zD, zE, zF, q41.1]
 refine awp_loop (fun m s h' => ∃ (i : Nat) (g : Fun) (w : Bool), i + m = l.length ∧ isView h' V g ∧ Same h h' [V.ic] ∧ chargeG (mkE frm) year (l.drop i) g w = chargeG (mkE frm) year l f false ∧ s = mk [(2, .box [.ptr V.iv 0, .v (.int .i64 year), .v (.int .i64 frm)]), (6, .v (.bool w)), (12, .sl 4 (l.map dlAv)), (13, .v (.int .i64 l.length)), (14, .v (.int .i64 (i : Nat)))])
   l.length _ (le_mk _ ?_) ⟨0, f, false, by omega, hV, .refl _ _, rfl, rfl⟩ ?_
 · simp only [Vm.D]
   try simp -dsimp only [Vm.G, zA, zB, zC, zD, zE, zF, q41.1]
   repeat' first | exact .refl _ | exact .nil _ _ _ (by decide) | refine ⟨?_, ?_⟩
 · clear hV
   rintro m s h' ⟨i, g, w, hi, hV, hsm, hp, rfl⟩
   simp -dsimp only [Vm.G, zA, zB, zC, zD, zE, zF, q41.1]
   refine cond_intro (fun hcc => ?_) (fun hcc => ?_)
   · have hlt : i < l.length := by have := of_decide_eq_true hcc; omega
     have hw := hwN i (by omega)
     rw [zWa hlt] at hp
     simp -dsimp only [Vm.G, zA, zB, zC, zD, zE, zF, q41.1]
     refine idx_map dlAv l i hlt ?_
     generalize l[i] = x at hp
     simp only [dlAv, dlCells]
     simp -dsimp only [Vm.G, zA, zB, zC, zD, zE, zF, q41.1, AV.cells]
     have h1 := zIa (frm != 0)
     rcases h1 with c1 | c1
     · have d1 : frm ≠ 0 := by simpa using c1
       simp -dsimp only [Vm.G, zA, zB, zC, zD, zE, zF, q41.1, c1]
       refine call_one (S := chargeSpec) rfl _ GaL.rfl ⟨V, g, year, x.node, mkE frm x, by simp only [mkE, if_pos d1], hV, fun h2 g1 g2 => ?_⟩
       rw [chargeG_cons] at hp
       generalize chargeOf g year x.node (mkE frm x) = q at hp g1 ⊢
       rcases q with ⟨qf, qw, qe⟩
       simp only at hp g1 ⊢
       simp -dsimp only [Vm.G, zA, zB, zC, zD, zE, zF, q41.1]
       have h3 := zIa (qe != 0)
       rcases h3 with c3 | c3
       · have d3 : qe ≠ 0 := by simpa using c3
         rw [if_pos d3] at hp
         rw [← hp] at hq
         simp -dsimp only [Vm.G, zA, zB, zC, zD, zE, zF, q41.1, c3]
         exact hq h2 g1 (hsm.trans g2)
       · have d3 : ¬ qe ≠ 0 := by simpa using c3
         rw [if_neg d3] at hp
         simp -dsimp only [Vm.G, zA, zB, zC, zD, zE, zF, q41.1, c3]
         cases w
         · simp -dsimp only [Vm.G, zA, zB, zC, zD, zE, zF, q41.1]
           refine kept_intro ⟨l.length - (i + 1), by omega, _, le_mk [(2, .box [.ptr V.iv 0, .v (.int .i64 year), .v (.int .i64 frm)]), (6, .v (.bool qw)), (12, .sl 4 (l.map dlAv)), (13, .v (.int .i64 l.length)), (14, .v (.int .i64 (i + 1 : Nat)))] ?_, i + 1, qf, qw, by omega, g1, hsm.trans g2, by simpa using hp, rfl⟩
           simp only [Vm.D, hw]
           try simp -dsimp only [Vm.G, zA, zB, zC, zD, zE, zF, q41.1, hw]
           repeat' first | exact .refl _ | exact .nil _ _ _ (by decide) | refine ⟨?_, ?_⟩
         · simp -dsimp only [Vm.G, zA, zB, zC, zD, zE, zF, q41.1]
           refine kept_intro ⟨l.length - (i + 1), by omega, _, le_mk [(2, .box [.ptr V.iv 0, .v (.int .i64 year), .v (.int .i64 frm)]), (6, .v (.bool true)), (12, .sl 4 (l.map dlAv)), (13, .v (.int .i64 l.length)), (14, .v (.int .i64 (i + 1 : Nat)))] ?_, i + 1, qf, true, by omega, g1, hsm.trans g2, by simpa using hp, rfl⟩
           simp only [Vm.D, hw]
           try simp -dsimp only [Vm.G, zA, zB, zC, zD, zE, zF, q41.1, hw]
           repeat' first | exact .refl _ | exact .nil _ _ _ (by decide) | refine ⟨?_, ?_⟩
     · have d1 : ¬ frm ≠ 0 := by simpa using c1
       simp -dsimp only [Vm.G, zA, zB, zC, zD, zE, zF, q41.1, c1]
       refine call_one (S := chargeSpec) rfl _ GaL.rfl ⟨V, g, year, x.node, mkE frm x, by simp only [mkE, if_neg d1], hV, fun h2 g1 g2 => ?_⟩
       rw [chargeG_cons] at hp
       generalize chargeOf g year x.node (mkE frm x) = q at hp g1 ⊢
       rcases q with ⟨qf, qw, qe⟩
       simp only at hp g1 ⊢
       simp -dsimp only [Vm.G, zA, zB, zC, zD, zE, zF, q41.1]
       have h3 := zIa (qe != 0)
       rcases h3 with c3 | c3
       · have d3 : qe ≠ 0 := by simpa using c3
         rw [if_pos d3] at hp
         rw [← hp] at hq
         simp -dsimp only [Vm.G, zA, zB, zC, zD, zE, zF, q41.1, c3]
         exact hq h2 g1 (hsm.trans g2)
       · have d3 : ¬ qe ≠ 0 := by simpa using c3
         rw [if_neg d3] at hp
         simp -dsimp only [Vm.G, zA, zB, zC, zD, zE, zF, q41.1, c3]
         cases w
         · simp -dsimp only [Vm.G, zA, zB, zC, zD, zE, zF, q41.1]
           refine kept_intro ⟨l.length - (i + 1), by omega, _, le_mk [(2, .box [.ptr V.iv 0, .v (.int .i64 year), .v (.int .i64 frm)]), (6, .v (.bool qw)), (12, .sl 4 (l.map dlAv)), (13, .v (.int .i64 l.length)), (14, .v (.int .i64 (i + 1 : Nat)))] ?_, i + 1, qf, qw, by omega, g1, hsm.trans g2, by simpa using hp, rfl⟩
           simp only [Vm.D, hw]
           try simp -dsimp only [Vm.G, zA, zB, zC, zD, zE, zF, q41.1, hw]
           repeat' first | exact .refl _ | exact .nil _ _ _ (by decide) | refine ⟨?_, ?_⟩
         · simp -dsimp only [Vm.G, zA, zB, zC, zD, zE, zF, q41.1]
           refine kept_intro ⟨l.length - (i + 1), by omega, _, le_mk [(2, .box [.ptr V.iv 0, .v (.int .i64 year), .v (.int .i64 frm)]), (6, .v (.bool true)), (12, .sl 4 (l.map dlAv)), (13, .v (.int .i64 l.length)), (14, .v (.int .i64 (i + 1 : Nat)))] ?_, i + 1, qf, true, by omega, g1, hsm.trans g2, by simpa using hp, rfl⟩
           simp only [Vm.D, hw]
           try simp -dsimp only [Vm.G, zA, zB, zC, zD, zE, zF, q41.1, hw]
           repeat' first | exact .refl _ | exact .nil _ _ _ (by decide) | refine ⟨?_, ?_⟩
   · have hge : ¬ i < l.length := by have := of_decide_eq_false hcc; omega
     rw [zMb (by omega)] at hp
     have hp : (g, w, (0 : Int)) = chargeG (mkE frm) year l f false := by rw [← hp]; simp only [chargeG]
     rw [← hp] at hq
     simp -dsimp only [Vm.G, zA, zB, zC, zD, zE, zF, q41.1]
     exact hq h' hV hsm
def encNewSpec : Vm.Spec := fun args h Q => ∃ (V : VId) (f : Fun) (year frm : Int) (l : List Ln), I64 year ∧ I64 frm ∧ l.length ≤ 1073741824 ∧ (∀ x ∈ l, x.ok) ∧ args = [.ptr V.iv 0, .v (.int .i64 year), .v (.int .i64 frm), .sl 4 (l.map lnAv)] ∧ isView h V f ∧
 ∀ h', isView h' V (encNew f year frm l).1 → Same h h' [V.ic] → Q (.tup [.v (.int .i64 (encNew f year frm l).2.1), .v (.bool (encNew f year frm l).2.2.1), .v (.int .i64 (encNew f year frm l).2.2.2)]) h'
attribute [local irreducible] linesFrom
theorem does_encNew : Does Tryz.prog 13 encNewSpec := by
 refine dA (good_cons does_yCheck (good_cons does_preCheck (good_cons does_elines (good_cons does_echarge (good_cons does_docsPut good_nil))))) Tryz.func13 rfl (by decide +kernel) ?_
 rintro args h Q ⟨V, f, year, frm, l, hy, hfr, hl, hok, rfl, hV, hq⟩
 refine ⟨by simp [Tryz.f13], ?_⟩
 unfold encNew at hq
 simp -dsimp only [Vm.G, zA, zB, zC, zD, zE, zF, q13.1]
 refine call_one (S := yCheckSpec) rfl _ GaL.rfl ⟨V, f, year, rfl, hV, ?_⟩
 generalize checkY f year = e at hq ⊢
 simp -dsimp only [Vm.G, zA, zB, zC, zD, zE, zF, q13.1]
 have h1 := zIa (e != 0)
 rcases h1 with c1 | c1
 · have d1 : e ≠ 0 := by simpa using c1
   simp only [if_pos d1] at hq
   simp -dsimp only [Vm.G, zA, zB, zC, zD, zE, zF, q13.1, c1]
   exact hq h hV (.refl _ _)
 · have d1 : ¬ e ≠ 0 := by simpa using c1
   simp only [if_neg d1] at hq
   simp -dsimp only [Vm.G, zA, zB, zC, zD, zE, zF, q13.1, c1]
   refine call_one (S := preCheckSpec) rfl _ GaL.rfl ⟨l, by omega, rfl, ?_⟩
   generalize preCheck l = e2 at hq ⊢
   simp -dsimp only [Vm.G, zA, zB, zC, zD, zE, zF, q13.1]
   have h2 := zIa (e2 != 0)
   rcases h2 with c2 | c2
   · have d2 : e2 ≠ 0 := by simpa using c2
     simp only [if_pos d2] at hq
     simp -dsimp only [Vm.G, zA, zB, zC, zD, zE, zF, q13.1, c2]
     exact hq h hV (.refl _ _)
   · have d2 : ¬ e2 ≠ 0 := by simpa using c2
     simp only [if_neg d2] at hq
     have hln := linesFrom_n f year frm l
     have hlo := linesFrom_ok f year frm l hok
     simp -dsimp only [Vm.G, zA, zB, zC, zD, zE, zF, q13.1, c2]
     refine call_one (S := elinesSpec) rfl _ GaL.rfl ⟨V, f, year, frm, l, hfr, hok, hl, rfl, hV, fun h1 g1 g2 => ?_⟩
     generalize linesFrom f year frm l = q at hq g1 hln hlo ⊢
     rcases q with ⟨qf, qo, qe⟩
     simp only at hq g1 hln hlo
     refine ⟨fun he => ?_, fun he => ?_⟩
     · have he : qe = 0 := he
       subst he
       simp only [ne_eq, not_true_eq_false, if_false] at hq
       simp only
       simp -dsimp only [Vm.G, zA, zB, zC, zD, zE, zF, q13.1, bne_self_eq_false]
       refine call_one (S := echargeSpec) rfl _ GaL.rfl ⟨V, qf, year, frm, qo, by omega, rfl, g1, fun h2 k1 k2 => ?_⟩
       generalize chargeG (mkE frm) year qo qf false = r at hq k1 ⊢
       rcases r with ⟨rf, rw1, re⟩
       simp only at hq k1 ⊢
       simp -dsimp only [Vm.G, zA, zB, zC, zD, zE, zF, q13.1]
       have h3 := zIa (re != 0)
       rcases h3 with c3 | c3
       · have d3 : re ≠ 0 := by simpa using c3
         have d3' : ¬ re = 0 := d3
         simp only [if_neg d3', ite_not, not_false_eq_true, if_true] at hq
         simp -dsimp only [Vm.G, zA, zB, zC, zD, zE, zF, q13.1, c3]
         exact hq h2 k1 (g2.trans k2)
       · have d3 : re = 0 := by simpa using c3
         simp only [d3, if_true, ite_not, not_true_eq_false, if_false] at hq
         have z0 : I64 0 := by unfold I64; omega
         have z2 : I64 2 := by unfold I64; omega
         simp -dsimp only [Vm.G, zA, zB, zC, zD, zE, zF, q13.1, c3]
         refine call_one (S := docsPutSpec) rfl _ GaL.rfl ⟨V, rf, ⟨0, 2, year, frm, 0⟩, qo, ⟨z0, z2, hy, hfr, z0⟩, hlo, rfl, k1, fun h3 m1 m2 => ?_⟩
         generalize docsPut rf ⟨0, 2, year, frm, 0⟩ qo = t at hq m1 ⊢
         rcases t with ⟨tf, ti, te⟩
         simp only at hq m1 ⊢
         have hq' := hq h3 m1 ((g2.trans k2).trans m2)
         cases rw1
         · simp -dsimp only [Vm.G, zA, zB, zC, zD, zE, zF, q13.1]
           exact hq'
         · simp -dsimp only [Vm.G, zA, zB, zC, zD, zE, zF, q13.1]
           exact hq'
     · have he : qe ≠ 0 := he
       simp only [if_pos he] at hq
       have c4 : (qe != 0) = true := by simpa using he
       simp only
       simp -dsimp only [Vm.G, zA, zB, zC, zD, zE, zF, q13.1, c4]
       exact hq h1 g1 g2
end Go.Proofs.Lx
namespace Go.Proofs.Lx
open Go.Vm
attribute [local irreducible] awpArr awpBin awpMake awpAppend awpCvX awpStrOf awpBinX awpSlice awpBS awpStore awpAlloc awpCopy awpIndex awpDraw awpIdxX awpFa awpField awpLookup awpUpdate awpDelete awpClear awpRange awpNext awpEntry awpBuild awpClearS awpIdxL awpTree appB awpIdxO eltA treeA
noncomputable def fundsL (l : List Ln) : List Ln := open Classical in if h : ∃ r, IsFunds l r then Classical.choose h else []
theorem fundsL_eq {l r : List Ln} (h : IsFunds l r) : fundsL l = r := by
 unfold fundsL
 rw [dif_pos ⟨r, h⟩]
 exact funds_same (Classical.choose_spec (⟨r, h⟩ : ∃ r, IsFunds l r)) h
noncomputable def entX (f : Fun) (y kind of : Int) (l : List Ln) : Fun × Int × Int := entryF f y kind of l (l ++ balanceL (fundsL l))
def entXSpec : Vm.Spec := fun args h Q => ∃ (V : VId) (f : Fun) (e : En) (l : List Ln), e.ok ∧ (∀ x ∈ l, x.ok) ∧ l.length ≤ 1048576 ∧ args = [.ptr V.iv 0, .agg (enCells e), .sl 4 (l.map lnAv)] ∧ isView h V f ∧
 ∀ h', isView h' V (entX f e.year e.kind e.of' l).1 → Same h h' [V.ic] → Q (.tup [.v (.int .i64 (entX f e.year e.kind e.of' l).2.1), .v (.int .i64 (entX f e.year e.kind e.of' l).2.2)]) h'
theorem does_entX : Does Tryz.prog 73 entXSpec := does_entry.imp (by
 rintro args h Q ⟨V, f, e, l, heo, hlo, hl, rfl, hV, hq⟩
 refine ⟨V, f, e, l, heo, hlo, hl, rfl, hV, fun hc => ?_, fun hc r h' hr g1 g2 => ?_⟩
 · have he : entX f e.year e.kind e.of' l = (f, 0, 1) := by unfold entX entryF; rw [if_pos hc]
   rw [he] at hq
   exact hq h hV (.refl _ _)
 · have he : entX f e.year e.kind e.of' l = standF f e.year e.kind e.of' (l ++ balanceL r) := by unfold entX entryF; rw [if_neg hc, fundsL_eq hr]
   rw [he] at hq
   exact hq h' g1 g2)
def xordAv (V : VId) (year frm : Int) : AV := .agg [.ptr V.iv 0, .v (.int .i64 year), .v (.int .i64 frm)]
def twoSpec : Vm.Spec := fun args h Q => ∃ (V : VId) (f : Fun) (year frm : Int) (x : Dl), args = [xordAv V year frm, dlAv x] ∧ isView h V f ∧
 (nodeAt f year x.node ≠ none → Q (.own true 45 4 ((twoL f year x).map lnAv)) h) ∧ (nodeAt f year x.node = none → Q (.sl 4 ((twoL f year x).map lnAv)) h)
theorem does_two0 : Does Tryz.prog 52 (fun args h Q => ∃ (V : VId) (f : Fun) (year frm : Int) (x : Dl), args = [xordAv V year frm, dlAv x] ∧ isView h V f ∧
   (nodeAt f year x.node ≠ none → Q (.own true 45 4 ((twoL f year x).map lnAv)) h) ∧ (nodeAt f year x.node = none → Q (.v (.slice none 0 0)) h)) := by
 refine dA (good_cons does_tget good_nil) Tryz.func52 rfl (by decide +kernel) ?_
 rintro args h Q ⟨V, f, year, frm, x, rfl, hV, hq1, hq2⟩
 refine ⟨by simp [Tryz.f52], ?_⟩
 simp only [xordAv, dlAv, dlCells]
 simp -dsimp only [Vm.G, zA, zB, zC, zD, zE, zF, q52.1]
 refine call_one (S := tgetSpec) rfl _ GaL.rfl ⟨V, f, year, x.node, rfl, hV, fun n hn => ?_, fun hn => ?_⟩
 · have hq := hq1 (by rw [hn]; exact fun e => by cases e)
   unfold twoL at hq
   rw [hn] at hq
   simp only [ndCells]
   simp -dsimp only [Vm.G, zA, zB, zC, zD, zE, zF, q52.1]
   refine bs_intro zr45 (by decide) (by decide) rfl rfl (by simp [solid, AV.cells]) ?_
   simp -dsimp only [Vm.G, zA, zB, zC, zD, zE, zF, q52.1]
   exact hq
 · simp only [ndCells]
   simp -dsimp only [Vm.G, zA, zB, zC, zD, zE, zF, q52.1]
   exact hq2 hn
theorem does_two : Does Tryz.prog 52 twoSpec := by
 refine does_two0.weak.imp ?_
 rintro args h Q ⟨V, f, year, frm, x, rfl, hV, hq1, hq2⟩
 exact ⟨V, f, year, frm, x, rfl, hV, fun h1 => ⟨_, .refl _, hq1 h1⟩, fun h1 => ⟨_, .nil 4, by
   have e : twoL f year x = [] := by unfold twoL; rw [h1]
   have := hq2 h1
   rw [e] at this
   exact this⟩⟩
theorem exp_take {f : Fun} {y : Int} {l : List Dl} {i : Nat} (hi : i < l.length) : expLines f y (l.take (i + 1)) = expLines f y (l.take i) ++ twoL f y l[i] := by
 unfold expLines
 rw [zPa hi, List.flatMap_append]
 simp
def xLinesSpec : Vm.Spec := fun args h Q => ∃ (V : VId) (f : Fun) (year : Int) (l : List Dl), l.length ≤ 1048576 ∧ args = [.ptr V.iv 0, .v (.int .i64 year), .sl 4 (l.map dlAv)] ∧ isView h V f ∧ Q (.own true 45 4 ((expLines f year l).map lnAv)) h
theorem does_xLines : Does Tryz.prog 18 xLinesSpec := by
 refine dA (good_cons does_two good_nil) Tryz.func18 rfl (by decide +kernel) ?_
 rintro args h Q ⟨V, f, year, l, hl, rfl, hV, hq⟩
 refine ⟨by simp [Tryz.f18], ?_⟩
 simp -dsimp only [Vm.G, zA, zB, zC, zD, zE, zF, q18.1]
 refine awp_loop (fun m s h' => ∃ i : Nat, i + m = l.length ∧ h' = h ∧ s = mk [(7, .box [.ptr V.iv 0, .v (.int .i64 year), .v (.int .i64 0)]), (8, .own true 45 4 ((expLines f year (l.take (i))).map lnAv)), (14, .sl 4 (l.map dlAv)), (15, .v (.int .i64 l.length)), (16, .v (.int .i64 (i : Nat)))])
   l.length _ (le_mk _ ?_) ⟨0, by omega, rfl, rfl⟩ ?_
 · simp only [Vm.D]
   try simp -dsimp only [Vm.G, zA, zB, zC, zD, zE, zF, q18.1]
   repeat' first | exact .refl _ | exact .nil _ _ _ (by decide) | refine ⟨?_, ?_⟩
 · rintro m s h' ⟨i, hi, rfl, rfl⟩
   simp -dsimp only [Vm.G, zA, zB, zC, zD, zE, zF, q18.1]
   refine cond_intro (fun hcc => ?_) (fun hcc => ?_)
   · have hlt : i < l.length := by have := of_decide_eq_true hcc; omega
     have hw := hwN i (by omega)
     have htk := exp_take (f := f) (y := year) hlt
     have hel := exp_len f year (l.take i)
     rw [zUa] at hel
     simp -dsimp only [Vm.G, zA, zB, zC, zD, zE, zF, q18.1]
     refine idx_map dlAv l i hlt ?_
     generalize l[i] = x at htk
     have hol := two_len f year x
     simp only [dlAv, dlCells]
     simp -dsimp only [Vm.G, zA, zB, zC, zD, zE, zF, q18.1, AV.cells]
     refine call_one (S := twoSpec) rfl _ GaL.rfl ⟨V, f, year, 0, x, rfl, hV, fun h3 => ?_, fun h3 => ?_⟩
     · simp -dsimp only [Vm.G, zA, zB, zC, zD, zE, zF, q18.1]
       refine app_sl Tryz.underlying33 (fun c hc => by obtain ⟨y, -, rfl⟩ := zPb.1 hc; rfl) (by simp only [zKa]; omega) ?_
       simp -dsimp only [Vm.G, zA, zB, zC, zD, zE, zF, q18.1]
       refine kept_intro ⟨l.length - (i + 1), by omega, _, le_mk [(7, .box [.ptr V.iv 0, .v (.int .i64 year), .v (.int .i64 0)]), (8, .own true 45 4 ((expLines f year (l.take (i + 1))).map lnAv)), (14, .sl 4 (l.map dlAv)), (15, .v (.int .i64 l.length)), (16, .v (.int .i64 (i + 1 : Nat)))] ?_, i + 1, by omega, rfl, rfl⟩
       simp only [Vm.D, hw, htk, zJa]
       try simp -dsimp only [Vm.G, zA, zB, zC, zD, zE, zF, q18.1, hw, htk, zJa]
       repeat' first | exact .refl _ | exact .nil _ _ _ (by decide) | refine ⟨?_, ?_⟩
     · simp -dsimp only [Vm.G, zA, zB, zC, zD, zE, zF, q18.1]
       refine app_sl Tryz.underlying33 (fun c hc => by obtain ⟨y, -, rfl⟩ := zPb.1 hc; rfl) (by simp only [zKa]; omega) ?_
       simp -dsimp only [Vm.G, zA, zB, zC, zD, zE, zF, q18.1]
       refine kept_intro ⟨l.length - (i + 1), by omega, _, le_mk [(7, .box [.ptr V.iv 0, .v (.int .i64 year), .v (.int .i64 0)]), (8, .own true 45 4 ((expLines f year (l.take (i + 1))).map lnAv)), (14, .sl 4 (l.map dlAv)), (15, .v (.int .i64 l.length)), (16, .v (.int .i64 (i + 1 : Nat)))] ?_, i + 1, by omega, rfl, rfl⟩
       simp only [Vm.D, hw, htk, zJa]
       try simp -dsimp only [Vm.G, zA, zB, zC, zD, zE, zF, q18.1, hw, htk, zJa]
       repeat' first | exact .refl _ | exact .nil _ _ _ (by decide) | refine ⟨?_, ?_⟩
   · have hge : ¬ i < l.length := by have := of_decide_eq_false hcc; omega
     rw [zSa (by omega)]
     simp -dsimp only [Vm.G, zA, zB, zC, zD, zE, zF, q18.1]
     exact hq
def spent (x : Dl) : Dl := { x with liq := x.orig }
def ownX (l : List Ln) : List Dl := l.map fun x => ⟨x.node, x.amt, x.amt, 0⟩
def xlinesSpec : Vm.Spec := fun args h Q => ∃ (V : VId) (f : Fun) (year frm : Int) (l : List Ln), I64 frm ∧ (∀ x ∈ l, x.ok) ∧ l.length ≤ 1048576 ∧ args = [xordAv V year frm, .sl 4 (l.map lnAv)] ∧ isView h V f ∧
 ∀ h', isView h' V (linesE f year frm l).1 → Same h h' [V.ic] → takeAns (linesE f year frm l) Q h'
attribute [local irreducible] takeOf
theorem spent_set {qd : List Dl} {i : Nat} (hi : i < qd.length) : ((qd.take i).map spent ++ qd.drop i).set i (spent qd[i]) = (qd.take (i + 1)).map spent ++ qd.drop (i + 1) := by
 rw [zWa hi, List.set_append_right _ _ (by rw [zKa, zUa]; omega), zKa, zUa, Nat.min_eq_left (by omega), Nat.sub_self, List.set_cons_zero, zPa hi, zJa]
 simp
theorem spent_get {qd : List Dl} {i : Nat} (hi : i < qd.length) : ((qd.take i).map spent ++ qd.drop i)[i]? = some qd[i] := by
 rw [zLb (by rw [zKa, zUa]; omega), zKa, zUa, Nat.min_eq_left (by omega), Nat.sub_self, List.getElem?_drop]
 simp [hi]
theorem does_xlines : Does Tryz.prog 30 xlinesSpec := by
 refine does_of_awpO 0 (good_cons does_take good_nil) Tryz.func30 rfl (by decide +kernel) (by decide +kernel) ?_
 rintro args h Q ⟨V, f, year, frm, l, hfr, hok, hl, rfl, hV, hq⟩
 refine ⟨by simp [Tryz.f30], ?_⟩
 rw [awpFuncO_some (by rfl)]
 unfold linesE at hq
 simp only [xordAv]
 simp -dsimp only [Vm.G, zA, zB, zC, zD, zE, zF, q30.1]
 have h1 := zIa (frm == 0)
 rcases h1 with c1 | c1
 · have d1 : frm = 0 := by simpa using c1
   simp only [if_pos d1] at hq
   have hq' := (hq h hV (.refl _ _)).1 rfl
   clear hq
   simp -dsimp only [Vm.G, zA, zB, zC, zD, zE, zF, q30.1, c1]
   refine awp_loop (fun m s h' => ∃ i : Nat, i + m = l.length ∧ h' = h ∧ s = mk [(6, .own true 47 4 ((ownX (l.take (i))).map dlAv)), (14, .sl 4 (l.map lnAv)), (15, .v (.int .i64 l.length)), (16, .v (.int .i64 (i : Nat)))])
     l.length _ (le_mk _ ?_) ⟨0, by omega, rfl, rfl⟩ ?_
   · simp only [Vm.D]
     try simp -dsimp only [Vm.G, zA, zB, zC, zD, zE, zF, q30.1]
     repeat' first | exact .refl _ | exact .nil _ _ _ (by decide) | refine ⟨?_, ?_⟩
   · rintro m s h' ⟨i, hi, rfl, rfl⟩
     simp -dsimp only [Vm.G, zA, zB, zC, zD, zE, zF, q30.1]
     refine cond_intro (fun hcc => ?_) (fun hcc => ?_)
     · have hlt : i < l.length := by have := of_decide_eq_true hcc; omega
       have hw := hwN i (by omega)
       have est : ownX (l.take (i + 1)) = ownX (l.take i) ++ [⟨l[i].node, l[i].amt, l[i].amt, 0⟩] := by
         unfold ownX
         rw [zPa hlt, zJa]; rfl
       have hol : (ownX (l.take i)).length ≤ i := by unfold ownX; rw [zKa, zUa]; omega
       have hxe : ∃ x, l[i] = x := ⟨_, rfl⟩
       rcases hxe with ⟨x, hx⟩
       rw [hx] at est
       simp -dsimp only [Vm.G, zA, zB, zC, zD, zE, zF, q30.1]
       refine idx_map lnAv l i hlt ?_
       simp only [hx, lnAv, lnCells]
       simp -dsimp only [Vm.G, zA, zB, zC, zD, zE, zF, q30.1, AV.cells]
       refine bs_intro zr47 (by decide) (by decide) rfl rfl (by simp [solid, AV.cells]) ?_
       simp -dsimp only [Vm.G, zA, zB, zC, zD, zE, zF, q30.1]
       refine app_sl Tryz.underlying43 (by simp [AV.cells]) (by simp only [zKa, zNa, zOa]; omega) ?_
       simp -dsimp only [Vm.G, zA, zB, zC, zD, zE, zF, q30.1]
       refine kept_intro ⟨l.length - (i + 1), by omega, _, le_mk [(6, .own true 47 4 ((ownX (l.take (i + 1))).map dlAv)), (14, .sl 4 (l.map lnAv)), (15, .v (.int .i64 l.length)), (16, .v (.int .i64 (i + 1 : Nat)))] ?_, i + 1, by omega, rfl, rfl⟩
       simp only [Vm.D, hw, est, zJa, zLa, zMa, dlAv, dlCells]
       try simp -dsimp only [Vm.G, zA, zB, zC, zD, zE, zF, q30.1, hw, est, zJa, zLa, zMa, dlAv, dlCells]
       repeat' first | exact .refl _ | exact .nil _ _ _ (by decide) | refine ⟨?_, ?_⟩
     · have hge : ¬ i < l.length := by have := of_decide_eq_false hcc; omega
       simp -dsimp only [Vm.G, zA, zB, zC, zD, zE, zF, q30.1]
       rw [zSa (by omega)]
       exact hq'
 · have d1 : ¬ frm = 0 := by simpa using c1
   simp only [if_neg d1] at hq
   simp -dsimp only [Vm.G, zA, zB, zC, zD, zE, zF, q30.1, c1]
   refine call_one (S := takeSpec) rfl _ GaL.rfl ⟨V, f, 2, year, frm, l, hfr, hok, by omega, rfl, hV, fun h2 g1 g2 => ?_⟩
   have hq' := hq h2 g1 g2
   have hqn := (takeOf_n f 2 year frm l).2
   clear hq
   generalize takeOf f 2 year frm l = q at hq' hqn ⊢
   rcases q with ⟨qf, qd, qe⟩
   simp only at hqn
   refine ⟨fun he => ?_, fun he => ?_⟩
   · have hq2 := hq'.1 he
     simp only at hq2 ⊢
     simp -dsimp only [Vm.G, zA, zB, zC, zD, zE, zF, q30.1]
     refine awp_loop (fun m s h' => ∃ i : Nat, i + m = qd.length ∧ h' = h2 ∧ s = mk [(6, .own true 47 4 (((qd.take (i)).map spent ++ qd.drop (i)).map dlAv)), (9, .v (.int .i64 0)), (44, .v (.int .i64 qd.length)), (45, .v (.int .i64 (i : Nat)))])
       qd.length _ (le_mk _ ?_) ⟨0, by omega, rfl, rfl⟩ ?_
     · simp only [Vm.D, List.take_zero, zMa, List.nil_append, zVa]
       try simp -dsimp only [Vm.G, zA, zB, zC, zD, zE, zF, q30.1, List.take_zero, zMa, List.nil_append, zVa]
       repeat' first | exact .refl _ | exact .nil _ _ _ (by decide) | refine ⟨?_, ?_⟩
     · rintro m s h' ⟨i, hi, rfl, rfl⟩
       simp -dsimp only [Vm.G, zA, zB, zC, zD, zE, zF, q30.1]
       refine cond_intro (fun hcc => ?_) (fun hcc => ?_)
       · have hlt : i < qd.length := by have := of_decide_eq_true hcc; omega
         have hw := hwN i (by omega)
         have hset := spent_set hlt
         have hget := spent_get hlt
         have hLl : ((qd.take i).map spent ++ qd.drop i).length = qd.length := by rw [zQa, zKa, zUa, List.length_drop]; omega
         generalize (qd.take i).map spent ++ qd.drop i = L at hset hget hLl ⊢
         generalize qd[i] = x at hset hget
         have hgl : (L.map dlAv)[i]? = some (dlAv x) := by rw [zSb, hget]; rfl
         have hre : (L.map dlAv).set i (.agg [.v (.int .i64 x.node), .v (.int .i64 x.orig), .v (.int .i64 x.orig), .v (.int .i64 x.can)]) = ((qd.take (i + 1)).map spent ++ qd.drop (i + 1)).map dlAv := by rw [← hset, List.map_set]; rfl
         simp -dsimp only [Vm.G, zA, zB, zC, zD, zE, zF, q30.1]
         refine idxO_intro (by omega) (by simp; omega) ?_
         simp -dsimp only [Vm.G, zA, zB, zC, zD, zE, zF, q30.1, zXa]
         refine eltA_intro hgl ?_
         simp only [dlAv, dlCells]
         simp -dsimp only [Vm.G, zA, zB, zC, zD, zE, zF, q30.1, AV.cells, zVa, List.drop_succ_cons]
         refine idxO_intro (by omega) (by simp; omega) ?_
         simp -dsimp only [Vm.G, zA, zB, zC, zD, zE, zF, q30.1, zXa]
         refine store_elt 47 (L.map dlAv) (by simp -dsimp only [Vm.E, zA, zB, zC, zD, zE, zG, zH]) (y := dlAv x) hgl rfl rfl (by omega) rfl ?_
         simp only [dlAv, dlCells, AV.cells, putCells, reCell, List.take_zero, List.nil_append, zNa, zOa, Nat.zero_add, Nat.reduceAdd, List.drop_succ_cons, zVa, List.append_nil, List.drop_nil, List.take_succ_cons, List.cons_append, List.singleton_append]
         simp -dsimp only [Vm.G, zA, zB, zC, zD, zE, zF, q30.1, hre]
         refine kept_intro ⟨qd.length - (i + 1), by omega, _, le_mk [(6, .own true 47 4 (((qd.take (i + 1)).map spent ++ qd.drop (i + 1)).map dlAv)), (9, .v (.int .i64 0)), (44, .v (.int .i64 qd.length)), (45, .v (.int .i64 (i + 1 : Nat)))] ?_, i + 1, by omega, rfl, rfl⟩
         simp only [Vm.D, hw]
         try simp -dsimp only [Vm.G, zA, zB, zC, zD, zE, zF, q30.1, hw]
         repeat' first | exact .refl _ | exact .nil _ _ _ (by decide) | refine ⟨?_, ?_⟩
       · have hge : ¬ i < qd.length := by have := of_decide_eq_false hcc; omega
         rw [zSa (by omega), zMb (by omega), List.append_nil]
         simp -dsimp only [Vm.G, zA, zB, zC, zD, zE, zF, q30.1]
         exact hq2
   · have hq2 := hq'.2 he
     simp only at hq2 ⊢
     simp -dsimp only [Vm.G, zA, zB, zC, zD, zE, zF, q30.1]
     refine awp_loop (fun m s h' => h' = h2 ∧ s = mk [(6, .v (.slice none 0 0)), (9, .v (.int .i64 qe)), (44, .v (.int .i64 0)), (45, .v (.int .i64 0))])
       0 _ (le_mk _ ?_) ⟨rfl, rfl⟩ ?_
     · simp only [Vm.D]
       try simp -dsimp only [Vm.G, zA, zB, zC, zD, zE, zF, q30.1]
       repeat' first | exact .refl _ | exact .nil _ _ _ (by decide) | refine ⟨?_, ?_⟩
     · rintro m s h' ⟨rfl, rfl⟩
       simp -dsimp only [Vm.G, zA, zB, zC, zD, zE, zF, q30.1]
       refine cond_intro (fun hcc => ?_) (fun hcc => ?_)
       · have := of_decide_eq_true hcc
         omega
       · simp -dsimp only [Vm.G, zA, zB, zC, zD, zE, zF, q30.1]
         exact hq2
def xchargeSpec : Vm.Spec := fun args h Q => ∃ (V : VId) (f : Fun) (year frm : Int) (l : List Dl), l.length ≤ 1073741824 ∧ args = [xordAv V year frm, .sl 4 (l.map dlAv)] ∧ isView h V f ∧
 ∀ h', isView h' V (chargeG (mkX frm) year l f false).1 → Same h h' [V.ic] → Q (.tup [.v (.bool (chargeG (mkX frm) year l f false).2.1), .v (.int .i64 (chargeG (mkX frm) year l f false).2.2)]) h'
attribute [local irreducible] chargeOf chargeG docsPut
theorem does_xcharge : Does Tryz.prog 31 xchargeSpec := by
 refine dA (good_cons does_charge good_nil) Tryz.func31 rfl (by decide +kernel) ?_
 rintro args h Q ⟨V, f, year, frm, l, hl, rfl, hV, hq⟩
 refine ⟨by simp [Tryz.f31], ?_⟩
 simp only [xordAv]
 simp -dsimp only [Vm.G, zA, zB, zC, zD, zE, zF, q31.1]
 refine awp_loop (fun m s h' => ∃ (i : Nat) (g : Fun) (w : Bool), i + m = l.length ∧ isView h' V g ∧ Same h h' [V.ic] ∧ chargeG (mkX frm) year (l.drop i) g w = chargeG (mkX frm) year l f false ∧ s = mk [(2, .box [.ptr V.iv 0, .v (.int .i64 year), .v (.int .i64 frm)]), (6, .v (.bool w)), (12, .sl 4 (l.map dlAv)), (13, .v (.int .i64 l.length)), (14, .v (.int .i64 (i : Nat)))])
   l.length _ (le_mk _ ?_) ⟨0, f, false, by omega, hV, .refl _ _, rfl, rfl⟩ ?_
 · simp only [Vm.D]
   try simp -dsimp only [Vm.G, zA, zB, zC, zD, zE, zF, q31.1]
   repeat' first | exact .refl _ | exact .nil _ _ _ (by decide) | refine ⟨?_, ?_⟩
 · clear hV
   rintro m s h' ⟨i, g, w, hi, hV, hsm, hp, rfl⟩
   simp -dsimp only [Vm.G, zA, zB, zC, zD, zE, zF, q31.1]
   refine cond_intro (fun hcc => ?_) (fun hcc => ?_)
   · have hlt : i < l.length := by have := of_decide_eq_true hcc; omega
     have hw := hwN i (by omega)
     rw [zWa hlt] at hp
     simp -dsimp only [Vm.G, zA, zB, zC, zD, zE, zF, q31.1]
     refine idx_map dlAv l i hlt ?_
     generalize l[i] = x at hp
     simp only [dlAv, dlCells]
     simp -dsimp only [Vm.G, zA, zB, zC, zD, zE, zF, q31.1, AV.cells]
     have h1 := zIa (frm != 0)
     rcases h1 with c1 | c1
     · have d1 : frm ≠ 0 := by simpa using c1
       simp -dsimp only [Vm.G, zA, zB, zC, zD, zE, zF, q31.1, c1]
       refine call_one (S := chargeSpec) rfl _ GaL.rfl ⟨V, g, year, x.node, mkX frm x, by simp only [mkX, if_pos d1], hV, fun h2 g1 g2 => ?_⟩
       rw [chargeG_cons] at hp
       generalize chargeOf g year x.node (mkX frm x) = q at hp g1 ⊢
       rcases q with ⟨qf, qw, qe⟩
       simp only at hp g1 ⊢
       have h3 := zIa (qe != 0)
       rcases h3 with c3 | c3
       · have d3 : qe ≠ 0 := by simpa using c3
         rw [if_pos d3] at hp
         rw [← hp] at hq
         simp -dsimp only [Vm.G, zA, zB, zC, zD, zE, zF, q31.1, c3]
         exact hq h2 g1 (hsm.trans g2)
       · have d3 : ¬ qe ≠ 0 := by simpa using c3
         rw [if_neg d3] at hp
         cases w
         · simp -dsimp only [Vm.G, zA, zB, zC, zD, zE, zF, q31.1, c3]
           refine kept_intro ⟨l.length - (i + 1), by omega, _, le_mk [(2, .box [.ptr V.iv 0, .v (.int .i64 year), .v (.int .i64 frm)]), (6, .v (.bool qw)), (12, .sl 4 (l.map dlAv)), (13, .v (.int .i64 l.length)), (14, .v (.int .i64 (i + 1 : Nat)))] ?_, i + 1, qf, qw, by omega, g1, hsm.trans g2, by simpa using hp, rfl⟩
           simp only [Vm.D, hw]
           try simp -dsimp only [Vm.G, zA, zB, zC, zD, zE, zF, q31.1, hw]
           repeat' first | exact .refl _ | exact .nil _ _ _ (by decide) | refine ⟨?_, ?_⟩
         · simp -dsimp only [Vm.G, zA, zB, zC, zD, zE, zF, q31.1, c3]
           refine kept_intro ⟨l.length - (i + 1), by omega, _, le_mk [(2, .box [.ptr V.iv 0, .v (.int .i64 year), .v (.int .i64 frm)]), (6, .v (.bool true)), (12, .sl 4 (l.map dlAv)), (13, .v (.int .i64 l.length)), (14, .v (.int .i64 (i + 1 : Nat)))] ?_, i + 1, qf, true, by omega, g1, hsm.trans g2, by simpa using hp, rfl⟩
           simp only [Vm.D, hw]
           try simp -dsimp only [Vm.G, zA, zB, zC, zD, zE, zF, q31.1, hw]
           repeat' first | exact .refl _ | exact .nil _ _ _ (by decide) | refine ⟨?_, ?_⟩
     · have d1 : ¬ frm ≠ 0 := by simpa using c1
       simp -dsimp only [Vm.G, zA, zB, zC, zD, zE, zF, q31.1, c1]
       refine call_one (S := chargeSpec) rfl _ GaL.rfl ⟨V, g, year, x.node, mkX frm x, by simp only [mkX, if_neg d1], hV, fun h2 g1 g2 => ?_⟩
       rw [chargeG_cons] at hp
       generalize chargeOf g year x.node (mkX frm x) = q at hp g1 ⊢
       rcases q with ⟨qf, qw, qe⟩
       simp only at hp g1 ⊢
       have h3 := zIa (qe != 0)
       rcases h3 with c3 | c3
       · have d3 : qe ≠ 0 := by simpa using c3
         rw [if_pos d3] at hp
         rw [← hp] at hq
         simp -dsimp only [Vm.G, zA, zB, zC, zD, zE, zF, q31.1, c3]
         exact hq h2 g1 (hsm.trans g2)
       · have d3 : ¬ qe ≠ 0 := by simpa using c3
         rw [if_neg d3] at hp
         cases w
         · simp -dsimp only [Vm.G, zA, zB, zC, zD, zE, zF, q31.1, c3]
           refine kept_intro ⟨l.length - (i + 1), by omega, _, le_mk [(2, .box [.ptr V.iv 0, .v (.int .i64 year), .v (.int .i64 frm)]), (6, .v (.bool qw)), (12, .sl 4 (l.map dlAv)), (13, .v (.int .i64 l.length)), (14, .v (.int .i64 (i + 1 : Nat)))] ?_, i + 1, qf, qw, by omega, g1, hsm.trans g2, by simpa using hp, rfl⟩
           simp only [Vm.D, hw]
           try simp -dsimp only [Vm.G, zA, zB, zC, zD, zE, zF, q31.1, hw]
           repeat' first | exact .refl _ | exact .nil _ _ _ (by decide) | refine ⟨?_, ?_⟩
         · simp -dsimp only [Vm.G, zA, zB, zC, zD, zE, zF, q31.1, c3]
           refine kept_intro ⟨l.length - (i + 1), by omega, _, le_mk [(2, .box [.ptr V.iv 0, .v (.int .i64 year), .v (.int .i64 frm)]), (6, .v (.bool true)), (12, .sl 4 (l.map dlAv)), (13, .v (.int .i64 l.length)), (14, .v (.int .i64 (i + 1 : Nat)))] ?_, i + 1, qf, true, by omega, g1, hsm.trans g2, by simpa using hp, rfl⟩
           simp only [Vm.D, hw]
           try simp -dsimp only [Vm.G, zA, zB, zC, zD, zE, zF, q31.1, hw]
           repeat' first | exact .refl _ | exact .nil _ _ _ (by decide) | refine ⟨?_, ?_⟩
   · have hge : ¬ i < l.length := by have := of_decide_eq_false hcc; omega
     rw [zMb (by omega)] at hp
     have hp : (g, w, (0 : Int)) = chargeG (mkX frm) year l f false := by rw [← hp]; simp only [chargeG]
     rw [← hp] at hq
     simp -dsimp only [Vm.G, zA, zB, zC, zD, zE, zF, q31.1]
     exact hq h' hV hsm
end Go.Proofs.Lx
namespace Go.Proofs.Lx
open Go.Vm
attribute [local irreducible] awpArr awpBin awpMake awpAppend awpCvX awpStrOf awpBinX awpSlice awpBS awpStore awpAlloc awpCopy awpIndex awpDraw awpIdxX awpFa awpField awpLookup awpUpdate awpDelete awpClear awpRange awpNext awpEntry awpBuild awpClearS awpIdxL awpTree appB awpIdxO eltA treeA
noncomputable def bookX (f : Fun) (year frm : Int) (l : List Dl) : Fun × Int × Int := bookF f year frm l (fundsL (expLines (docsPut f ⟨0, 3, year, frm, 0⟩ l).1 year l))
theorem bookX_eq (f : Fun) (year frm : Int) (l : List Dl) : bookX f year frm l = if (docsPut f ⟨0, 3, year, frm, 0⟩ l).2.2 ≠ 0 then ((docsPut f ⟨0, 3, year, frm, 0⟩ l).1, 0, (docsPut f ⟨0, 3, year, frm, 0⟩ l).2.2)
   else if (entX (docsPut f ⟨0, 3, year, frm, 0⟩ l).1 year 3 (docsPut f ⟨0, 3, year, frm, 0⟩ l).2.1 (expLines (docsPut f ⟨0, 3, year, frm, 0⟩ l).1 year l)).2.2 ≠ 0 then
     ((entX (docsPut f ⟨0, 3, year, frm, 0⟩ l).1 year 3 (docsPut f ⟨0, 3, year, frm, 0⟩ l).2.1 (expLines (docsPut f ⟨0, 3, year, frm, 0⟩ l).1 year l)).1, 0, (entX (docsPut f ⟨0, 3, year, frm, 0⟩ l).1 year 3 (docsPut f ⟨0, 3, year, frm, 0⟩ l).2.1 (expLines (docsPut f ⟨0, 3, year, frm, 0⟩ l).1 year l)).2.2)
   else ((entX (docsPut f ⟨0, 3, year, frm, 0⟩ l).1 year 3 (docsPut f ⟨0, 3, year, frm, 0⟩ l).2.1 (expLines (docsPut f ⟨0, 3, year, frm, 0⟩ l).1 year l)).1, (docsPut f ⟨0, 3, year, frm, 0⟩ l).2.1, 0) := rfl
noncomputable def expX (f : Fun) (year frm : Int) (l : List Ln) : Fun × Int × Bool × Int := expNew f year frm l (fundsL (expLines (expAt f year frm l).1 year (expAt f year frm l).2))
theorem expX_eq (f : Fun) (year frm : Int) (l : List Ln) : expX f year frm l = if checkY f year ≠ 0 then (f, 0, false, checkY f year)
   else if preCheck l ≠ 0 then (f, 0, false, preCheck l)
   else if (linesE f year frm l).2.2 ≠ 0 then ((linesE f year frm l).1, 0, false, (linesE f year frm l).2.2)
   else if (chargeG (mkX frm) year (linesE f year frm l).2.1 (linesE f year frm l).1 false).2.2 ≠ 0 then ((chargeG (mkX frm) year (linesE f year frm l).2.1 (linesE f year frm l).1 false).1, 0, false, (chargeG (mkX frm) year (linesE f year frm l).2.1 (linesE f year frm l).1 false).2.2)
   else ((bookX (chargeG (mkX frm) year (linesE f year frm l).2.1 (linesE f year frm l).1 false).1 year frm (linesE f year frm l).2.1).1, (bookX (chargeG (mkX frm) year (linesE f year frm l).2.1 (linesE f year frm l).1 false).1 year frm (linesE f year frm l).2.1).2.1,
     (chargeG (mkX frm) year (linesE f year frm l).2.1 (linesE f year frm l).1 false).2.1 && ((bookX (chargeG (mkX frm) year (linesE f year frm l).2.1 (linesE f year frm l).1 false).1 year frm (linesE f year frm l).2.1).2.2 == 0),
     (bookX (chargeG (mkX frm) year (linesE f year frm l).2.1 (linesE f year frm l).1 false).1 year frm (linesE f year frm l).2.1).2.2) := rfl
theorem exp_ok {f : Fun} {y : Int} {l : List Dl} (hl : ∀ x ∈ l, x.ok) : ∀ z ∈ expLines f y l, z.ok := fun z hz => by
 obtain ⟨x, hx, hzx⟩ := List.mem_flatMap.1 hz
 have hxo := hl x hx
 unfold twoL at hzx
 split at hzx
 · rename_i n hn
   have hno := nodeAt_ok hn
   obtain ⟨a1, a2, a3, a4, a5, a6, a7, a8, a9, a10, a11⟩ := hno
   simp only [List.mem_cons, List.not_mem_nil, or_false] at hzx
   rcases hzx with rfl | rfl
   · exact ⟨a4, a5, show I64 0 by unfold I64; omega, hxo.2.1⟩
   · exact ⟨a4, show I64 1010 by unfold I64; omega, show I64 0 by unfold I64; omega, w64_range _⟩
 · simp at hzx
theorem docsPut_id (f : Fun) (d : Dc) (l : List Dl) : I64 (docsPut f d l).2.1 := by
 unfold docsPut
 split
 · show I64 0; unfold I64; omega
 · split
   · show I64 0; unfold I64; omega
   · rename_i h
     show I64 (readOf f (seqKey 2) + 1)
     unfold I64
     omega
theorem linesE_n (f : Fun) (year frm : Int) (l : List Ln) : (linesE f year frm l).1.n ≤ f.n + l.length ∧ (linesE f year frm l).2.1.length ≤ l.length := by
 unfold linesE
 split
 · exact ⟨Nat.le_add_right _ _, by show (l.map _).length ≤ _; rw [zKa]; exact zYa _⟩
 · have := takeOf_n f 2 year frm l
   exact ⟨this.1, by show (List.map _ _).length ≤ _; rw [zKa]; exact this.2⟩
theorem linesE_ok (f : Fun) (year frm : Int) (l : List Ln) (hl : ∀ x ∈ l, x.ok) : ∀ x ∈ (linesE f year frm l).2.1, x.ok := by
 unfold linesE
 split
 · intro x hx
   obtain ⟨y, hy, rfl⟩ := zPb.1 hx
   have := hl y hy
   exact ⟨this.2.2.1, this.2.2.2, this.2.2.2, show I64 0 by unfold I64; omega⟩
 · intro x hx
   obtain ⟨y, hy, rfl⟩ := zPb.1 hx
   have := takeOf_ok f 2 year frm l hl y hy
   exact ⟨this.1, this.2.1, this.2.1, this.2.2.2⟩
attribute [local irreducible] chargeOf chargeG docsPut linesE takeOf entX bookX expLines
def bookSpec : Vm.Spec := fun args h Q => ∃ (V : VId) (f : Fun) (year frm : Int) (l : List Dl), I64 year ∧ I64 frm ∧ (∀ x ∈ l, x.ok) ∧ l.length ≤ 100000 ∧ args = [xordAv V year frm, .sl 4 (l.map dlAv)] ∧ isView h V f ∧
 ∀ h', isView h' V (bookX f year frm l).1 → Same h h' [V.ic] → Q (.tup [.v (.int .i64 (bookX f year frm l).2.1), .v (.int .i64 (bookX f year frm l).2.2)]) h'
theorem does_book : Does Tryz.prog 32 bookSpec := by
 refine dA (good_cons does_docsPut (good_cons does_xLines (good_cons does_entX good_nil))) Tryz.func32 rfl (by decide +kernel) ?_
 rintro args h Q ⟨V, f, year, frm, l, hy, hfr, hlo, hll, rfl, hV, hq⟩
 refine ⟨by simp [Tryz.f32], ?_⟩
 have hbx := bookX_eq f year frm l
 have hid := docsPut_id f ⟨0, 3, year, frm, 0⟩ l
 have z0 : I64 0 := by unfold I64; omega
 have z3 : I64 3 := by unfold I64; omega
 simp only [xordAv]
 simp -dsimp only [Vm.G, zA, zB, zC, zD, zE, zF, q32.1]
 refine call_one (S := docsPutSpec) rfl _ GaL.rfl ⟨V, f, ⟨0, 3, year, frm, 0⟩, l, ⟨z0, z3, hy, hfr, z0⟩, hlo, rfl, hV, fun h2 g1 g2 => ?_⟩
 generalize docsPut f ⟨0, 3, year, frm, 0⟩ l = t at hbx hid g1 ⊢
 rcases t with ⟨tf, ti, te⟩
 simp only at hbx hid g1 ⊢
 have h0 := zIa (te != 0)
 rcases h0 with c | c
 · rw [if_pos (by simpa using c)] at hbx
   rw [hbx] at hq
   simp -dsimp only [Vm.G, zA, zB, zC, zD, zE, zF, q32.1, c]
   exact hq h2 g1 g2
 · rw [if_neg (by simpa using c)] at hbx
   have hel : (expLines tf year l).length ≤ 2 * l.length := exp_len tf year l
   have heo := exp_ok (f := tf) (y := year) hlo
   simp -dsimp only [Vm.G, zA, zB, zC, zD, zE, zF, q32.1, c]
   refine draw_cont [2, 8] (.take 0 (.take 1 (.take 2 (.take 3 (.take 4 (.take 5 (.take 6 (.take 7 (.alt 8 (.alt 9 (.take 10 (.take 11 (.take 12 (.alt 13 (.alt 14 (.done) .stop) .stop)))) .stop) .stop))))))))) (fun s h3 => isView h3 V (entX tf year 3 ti (expLines tf year l)).1 ∧ Same h h3 [V.ic] ∧ s 10 = .v (.int .i64 (entX tf year 3 ti (expLines tf year l)).2.2) ∧ s 6 = .v (.int .i64 ti)) (by kernel_rfl) (by kernel_rfl) (by kernel_rfl) (by decide) ?_ ?_
   · clear hq hbx
     repeat' first
       | with_reducible exact True.intro
       | refine call_one (S := xLinesSpec) rfl _ GaL.rfl ⟨V, tf, year, l, by omega, rfl, g1, ?_⟩
       | refine call_one (S := entXSpec) rfl _ GaL.rfl ⟨V, tf, ⟨0, year, 3, 0, ti, 0⟩, expLines tf year l, ⟨z0, hy, z3, z0, hid, z0⟩, heo, by omega, rfl, g1, fun h3 k1 k2 => ?_⟩
       | simp -dsimp only [Vm.G, zA, zB, zC, zD, zE, zF, q32.1, AV.cells]
       | refine tree_alt ?_ ?_
       | refine ⟨k1, g2.trans k2, ?_⟩
       | repeat' first | rfl | exact True.intro | refine And.intro ?_ ?_
   · rintro s h3 ⟨k1, k2, e10, e6⟩
     generalize entX tf year 3 ti (expLines tf year l) = u at hbx k1 e10
     rcases u with ⟨uf, ui, ue⟩
     simp only at hbx k1 e10
     have h0 := zIa (ue != 0)
     rcases h0 with c2 | c2
     · rw [if_pos (by simpa using c2)] at hbx
       rw [hbx] at hq
       simp -dsimp only [Vm.G, zA, zB, zC, zD, zE, zF, q32.1, e10, e6, c2]
       exact hq h3 k1 k2
     · rw [if_neg (by simpa using c2)] at hbx
       rw [hbx] at hq
       simp -dsimp only [Vm.G, zA, zB, zC, zD, zE, zF, q32.1, e10, e6, c2]
       exact hq h3 k1 k2
def expNewSpec : Vm.Spec := fun args h Q => ∃ (V : VId) (f : Fun) (year frm : Int) (l : List Ln), I64 year ∧ I64 frm ∧ l.length ≤ 100000 ∧ (∀ x ∈ l, x.ok) ∧ args = [.ptr V.iv 0, .v (.int .i64 year), .v (.int .i64 frm), .sl 4 (l.map lnAv)] ∧ isView h V f ∧
 ∀ h', isView h' V (expX f year frm l).1 → Same h h' [V.ic] → Q (.tup [.v (.int .i64 (expX f year frm l).2.1), .v (.bool (expX f year frm l).2.2.1), .v (.int .i64 (expX f year frm l).2.2.2)]) h'
theorem does_expNew : Does Tryz.prog 9 expNewSpec := by
 refine dA (good_cons does_yCheck (good_cons does_preCheck (good_cons does_xlines (good_cons does_xcharge (good_cons does_book good_nil))))) Tryz.func9 rfl (by decide +kernel) ?_
 rintro args h Q ⟨V, f, year, frm, l, hy, hfr, hl, hok, rfl, hV, hq⟩
 refine ⟨by simp [Tryz.f9], ?_⟩
 have hx := expX_eq f year frm l
 generalize expX f year frm l = X at hx hq
 simp -dsimp only [Vm.G, zA, zB, zC, zD, zE, zF, q9.1]
 refine call_one (S := yCheckSpec) rfl _ GaL.rfl ⟨V, f, year, rfl, hV, ?_⟩
 generalize checkY f year = e at hx ⊢
 have h1 := zIa (e != 0)
 rcases h1 with c1 | c1
 · rw [if_pos (by simpa using c1)] at hx
   subst hx
   simp -dsimp only [Vm.G, zA, zB, zC, zD, zE, zF, q9.1, c1]
   exact hq h hV (.refl _ _)
 · rw [if_neg (by simpa using c1)] at hx
   simp -dsimp only [Vm.G, zA, zB, zC, zD, zE, zF, q9.1, c1]
   refine call_one (S := preCheckSpec) rfl _ GaL.rfl ⟨l, by omega, rfl, ?_⟩
   generalize preCheck l = e2 at hx ⊢
   have h2 := zIa (e2 != 0)
   rcases h2 with c2 | c2
   · rw [if_pos (by simpa using c2)] at hx
     subst hx
     simp -dsimp only [Vm.G, zA, zB, zC, zD, zE, zF, q9.1, c2]
     exact hq h hV (.refl _ _)
   · rw [if_neg (by simpa using c2)] at hx
     have hln := linesE_n f year frm l
     have hlo := linesE_ok f year frm l hok
     simp -dsimp only [Vm.G, zA, zB, zC, zD, zE, zF, q9.1, c2]
     refine call_one (S := xlinesSpec) rfl _ GaL.rfl ⟨V, f, year, frm, l, hfr, hok, by omega, rfl, hV, fun h1 g1 g2 => ?_⟩
     generalize linesE f year frm l = q at hx g1 hln hlo ⊢
     rcases q with ⟨qf, qo, qe⟩
     simp only at hx g1 hln hlo
     refine ⟨fun he => ?_, fun he => ?_⟩
     · have he : qe = 0 := he
       subst he
       rw [if_neg (by simp)] at hx
       simp only
       simp -dsimp only [Vm.G, zA, zB, zC, zD, zE, zF, q9.1, bne_self_eq_false]
       refine call_one (S := xchargeSpec) rfl _ GaL.rfl ⟨V, qf, year, frm, qo, by omega, rfl, g1, fun h2 k1 k2 => ?_⟩
       generalize chargeG (mkX frm) year qo qf false = r at hx k1 ⊢
       rcases r with ⟨rf, rw1, re⟩
       simp only at hx k1 ⊢
       have h3 := zIa (re != 0)
       rcases h3 with c3 | c3
       · rw [if_pos (by simpa using c3)] at hx
         subst hx
         simp -dsimp only [Vm.G, zA, zB, zC, zD, zE, zF, q9.1, c3]
         exact hq h2 k1 (g2.trans k2)
       · rw [if_neg (by simpa using c3)] at hx
         simp -dsimp only [Vm.G, zA, zB, zC, zD, zE, zF, q9.1, c3]
         refine call_one (S := bookSpec) rfl _ GaL.rfl ⟨V, rf, year, frm, qo, hy, hfr, hlo, by omega, rfl, k1, fun h3 m1 m2 => ?_⟩
         generalize bookX rf year frm qo = t at hx m1 ⊢
         rcases t with ⟨tf, ti, te⟩
         simp only at hx m1 ⊢
         subst hx
         have hq' := hq h3 m1 ((g2.trans k2).trans m2)
         cases rw1
         · simp -dsimp only [Vm.G, zA, zB, zC, zD, zE, zF, q9.1]
           exact hq'
         · simp -dsimp only [Vm.G, zA, zB, zC, zD, zE, zF, q9.1]
           exact hq'
     · have he : qe ≠ 0 := he
       rw [if_pos he] at hx
       subst hx
       have c4 : (qe != 0) = true := by simpa using he
       simp only
       simp -dsimp only [Vm.G, zA, zB, zC, zD, zE, zF, q9.1, c4]
       exact hq h1 g1 g2
end Go.Proofs.Lx
namespace Go.Proofs.Lx
open Go.Vm
attribute [local irreducible] awpArr awpBin awpMake awpAppend awpCvX awpStrOf awpBinX awpSlice awpBS awpStore awpAlloc awpCopy awpIndex awpDraw awpIdxX awpFa awpField awpLookup awpUpdate awpDelete awpClear awpRange awpNext awpEntry awpBuild awpClearS awpIdxL awpTree appB awpIdxO eltA treeA
def memOf (mem : List Ent) (k : List UInt8) : Option (List UInt8) := (mget (strK k) mem).map fun e => bytesOf e.val
def memV (h : Heap) (V : VId) (g : Fun) : Prop := ∃ mem clk, h[V.im]? = some (.map mem clk) ∧ (∀ k, g k = memOf mem k) ∧ mem.length ≤ g.n
def wasR (h : Heap) (R : RId) (g : Fun) : Prop := ∃ lw : List KV, h[R.iw]? = some (tabObj lw) ∧ TabIs g lw ∧ lw.length ≤ g.n ∧ ∀ p ∈ lw, p.1.length ≤ 32 ∧ p.2.length ≤ 120
def BothW (h : Heap) (V : VId) (R : RId) (f g : Fun) : Prop := Both h V R f ∧ memV h V g ∧ wasR h R g
theorem memV.same {h h' : Heap} {V : VId} {g : Fun} {fp : List Nat} (hm : memV h V g) (hs : Same h h' fp) (hd : V.im ∉ fp) : memV h' V g := by
 obtain ⟨mem, clk, h1, h2⟩ := hm
 exact ⟨mem, clk, hs.get h1 hd, h2⟩
theorem wasR.same {h h' : Heap} {R : RId} {g : Fun} {fp : List Nat} (hw : wasR h R g) (hs : Same h h' fp) (hd : R.iw ∉ fp) : wasR h' R g := by
 obtain ⟨lw, h1, h2⟩ := hw
 exact ⟨lw, hs.get h1 hd, h2⟩
theorem isView.ne {h : Heap} {V : VId} {f : Fun} (hV : isView h V f) : V.iv ≠ V.ic ∧ V.iv ≠ V.im ∧ V.ic ≠ V.im := by
 obtain ⟨_, _, _, _, _, _, _, h4, _⟩ := hV
 exact h4
theorem isRef.ne {h : Heap} {R : RId} {f : Fun} (hR : isRef h R f) : R.iw ≠ R.inn ∧ R.iw ≠ R.it := by
 obtain ⟨_, _, _, _, _, _, _, h5, _⟩ := hR
 exact h5.2.2.2
theorem BothW.step {h h' h2 : Heap} {V : VId} {R : RId} {f f' g : Fun} (hB : BothW h V R f g) (hV : isView h' V f') (hs : Same h h' [V.ic]) (hR : isRef h2 R f') (hs2 : Same h' h2 (rFoot R)) : BothW h2 V R f' g := by
 obtain ⟨hB, hm, hw⟩ := hB
 refine ⟨hB.ref hV hR hs2, (hm.same hs ?_).same hs2 ?_, (hw.same hs ?_).same hs2 ?_⟩
 · have := hB.1.ne.2.2
   simp [Ne.symm this]
 · have := hB.2.2 V.im (by simp)
   simp [rFoot] at this ⊢
   exact ⟨this.2.2.1, this.2.2.2⟩
 · have := hB.2.2 V.ic (by simp)
   simp at this ⊢
   exact fun e => this.2.1 e.symm
 · have := hB.2.1.ne
   simp [rFoot]
   exact this
theorem BothW.quiet {h h' : Heap} {V : VId} {R : RId} {f g : Fun} (hB : BothW h V R f g) (hV : isView h' V f) (hs : Same h h' []) : BothW h' V R f g :=
 ⟨hB.1.quiet hV hs, hB.2.1.same hs (by simp), hB.2.2.same hs (by simp)⟩
theorem Both.quietB {h h' : Heap} {V : VId} {R : RId} {f g : Fun} (hB : BothW h V R f g) (hB2 : Both h' V R f) (hs : Same h h' []) : BothW h' V R f g :=
 ⟨hB2, hB.2.1.same hs (by simp), hB.2.2.same hs (by simp)⟩
theorem mdel_sub (k : Value) : ∀ es : List Ent, (mdel k es).Sublist es
 | [] => .slnil
 | e :: es => by
   unfold mdel
   split
   · exact List.sublist_cons_self ..
   · exact (mdel_sub k es).cons_cons e
theorem mget_cons (k : List UInt8) (e : Ent) (es : List Ent) {a : List UInt8} (he : e.key = strK a) : mget (strK k) (e :: es) = if k = a then some e else mget (strK k) es := by
 unfold mget
 rw [List.find?_cons, he, keyEq_str]
 by_cases h : k = a
 · rw [if_pos h, h]; simp
 · have : (k == a) = false := by simpa using h
   rw [if_neg h, this]
theorem mget_mdel (q k : List UInt8) : ∀ {es : List Ent}, (∀ e ∈ es, ∃ k, e.key = strK k) → (es.map kOf).Nodup → mget (strK k) (mdel (strK q) es) = if k = q then none else mget (strK k) es
 | [], _, _ => by simp [mdel, mget]
 | e :: es, hk, hn => by
   obtain ⟨a, ha⟩ := hk e (List.mem_cons_self ..)
   have hk' : ∀ e ∈ es, ∃ k, e.key = strK k := fun e he => hk e (List.mem_cons_of_mem _ he)
   rw [zLa, List.nodup_cons] at hn
   rw [kOf_eq ha] at hn
   unfold mdel
   rw [ha, keyEq_str]
   by_cases hq : q = a
   · subst hq
     simp only [beq_self_eq_true, if_true]
     rw [mget_cons k e es ha]
     by_cases hkq : k = q
     · rw [if_pos hkq, hkq]
       cases hg : mget (strK q) es with
       | none => rfl
       | some x => exact absurd ((mget_some hk' hn.2).1 (by rw [hg]; rfl)) hn.1
     · rw [if_neg hkq, if_neg hkq]
   · have h2 : (q == a) = false := by simpa using hq
     simp only [h2, Bool.false_eq_true, if_false]
     rw [mget_cons k e _ ha, mget_cons k e es ha, mget_mdel q k hk' hn.2]
     by_cases hka : k = a
     · have : ¬ k = q := fun e => hq (e ▸ hka)
       rw [if_pos hka, if_neg this, if_pos hka]
     · rw [if_neg hka, if_neg hka]
theorem Born.del {q : Value} {c : Nat} {es : List Ent} (h : Born es c) : Born (mdel q es) c :=
 ⟨⟨h.1.1.sublist ((mdel_sub q es).map _), h.1.2.sublist ((mdel_sub q es).map _)⟩, fun e he => h.2 e ((mdel_sub q es).mem he)⟩
structure Kept (mem0 done mem : List Ent) (clk : Nat) : Prop where
 wf : ∀ e ∈ mem, WfM e
 born : Born mem clk
 len : mem.length ≤ mem0.length + done.length
 short : ∀ e ∈ mem, (kOf e).length ≤ 32
 now : ∀ k, memOf mem k = nowOf done mem0 k
theorem nowOf_snoc {done mem0 : List Ent} {e : Ent} {q : List UInt8} (hq : e.key = strK q) (hk : ∀ e ∈ done, ∃ k, e.key = strK k) (hn : ((done ++ [e]).map kOf).Nodup) (k : List UInt8) :
   nowOf (done ++ [e]) mem0 k = if k = q then shapeOf e.val else nowOf done mem0 k := by
 have h1 : mget (strK k) (done ++ [e]) = (mget (strK k) done).or (mget (strK k) [e]) := by unfold mget; rw [List.find?_append]
 have h2 := mget_cons k e [] hq
 rw [zJa, List.nodup_append] at hn
 have hqd : q ∉ done.map kOf := fun hm => hn.2.2 q hm q (by simp [kOf_eq hq]) rfl
 unfold nowOf
 rw [h1, h2]
 by_cases hkq : k = q
 · subst hkq
   have : mget (strK k) done = none := by
     cases hg : mget (strK k) done with
     | none => rfl
     | some x => exact absurd ((mget_some hk hn.1).1 (by rw [hg]; rfl)) hqd
   rw [this]; simp
 · rw [if_neg hkq, if_neg hkq]
   have : mget (strK k) ([] : List Ent) = none := rfl
   rw [this, Option.or_none]
theorem Kept.del {mem0 done mem : List Ent} {clk : Nat} (h : Kept mem0 done mem clk) {e : Ent} {q : List UInt8} (hq : e.key = strK q) (hs : shapeOf e.val = none) (hk : ∀ e ∈ done, ∃ k, e.key = strK k) (hn : ((done ++ [e]).map kOf).Nodup) :
   Kept mem0 (done ++ [e]) (mdel (strK q) mem) clk := by
 refine ⟨fun x hx => h.wf x ((mdel_sub _ _).mem hx), h.born.del, ?_, fun x hx => h.short x ((mdel_sub _ _).mem hx), fun k => ?_⟩
 · have := (mdel_sub (strK q) mem).length_le
   have := h.len
   rw [zQa]; omega
 · rw [nowOf_snoc hq hk hn k, hs, ← h.now k]
   unfold memOf
   rw [mget_mdel q k (fun e he => (h.wf e he).1) h.born.1.2]
   split <;> rfl
theorem Kept.put {mem0 done mem : List Ent} {clk : Nat} (h : Kept mem0 done mem clk) {e : Ent} {q l : List UInt8} {x : AV} (hq : e.key = strK q) (hs : shapeOf e.val = some l) (hx : isB x l) (hl : l.length ≤ 120) (hq32 : q.length ≤ 32) (hk : ∀ e ∈ done, ∃ k, e.key = strK k) (hn : ((done ++ [e]).map kOf).Nodup) :
   Kept mem0 (done ++ [e]) (mput (strK q) x clk mem) (mclk (strK q) mem clk) := by
 have hkm : ∀ e ∈ mem, ∃ k, e.key = strK k := fun e he => (h.wf e he).1
 refine ⟨fun y hy => ?_, h.born.put hkm, ?_, fun y hy => ?_, fun k => ?_⟩
 · rcases mput_mem hy with hy | ⟨h1, h2⟩
   · exact h.wf y hy
   · exact ⟨⟨q, h1⟩, l, by rw [h2]; exact hx, hl⟩
 · have := mput_length (k := strK q) (v := x) (c := clk) mem
   have := h.len
   rw [zQa]
   simp only [zNa, zOa]
   omega
 · rcases mput_mem hy with hy | ⟨h1, h2⟩
   · exact h.short y hy
   · rw [kOf_eq h1]; exact hq32
 · rw [nowOf_snoc hq hk hn k, hs, ← h.now k]
   unfold memOf
   have hg := mget_mput (v := x) (c := clk) q k hkm
   have e1 : ∀ o : Option Ent, (o.map fun e => bytesOf e.val) = (o.map Ent.val).map bytesOf := fun o => by cases o <;> rfl
   rw [e1, hg]
   by_cases hkq : k = q
   · rw [if_pos hkq, if_pos hkq, Option.map_some, bytesOf_isB hx]
   · rw [if_neg hkq, if_neg hkq, ← e1]
theorem nowOf_perm {a b mem : List Ent} (h : a.Perm b) (hk : ∀ e ∈ a, ∃ k, e.key = strK k) (hn : (a.map kOf).Nodup) (k : List UInt8) : nowOf a mem k = nowOf b mem k := by
 have hk2 : ∀ e ∈ b, ∃ k, e.key = strK k := fun e he => hk e (h.mem_iff.2 he)
 have hn2 : (b.map kOf).Nodup := ((h.map kOf).nodup_iff).1 hn
 have : mget (strK k) a = mget (strK k) b := by
   cases hg : mget (strK k) b with
   | some e =>
     obtain ⟨h1, h2⟩ := (mget_iff hk2 hn2).1 hg
     exact (mget_iff hk hn).2 ⟨h.mem_iff.2 h1, h2⟩
   | none =>
     cases hg2 : mget (strK k) a with
     | none => rfl
     | some e =>
       obtain ⟨h1, h2⟩ := (mget_iff hk hn).1 hg2
       have := (mget_iff hk2 hn2).2 ⟨h.mem_iff.1 h1, h2⟩
       rw [hg] at this; cases this
 unfold nowOf
 rw [this]
end Go.Proofs.Lx
namespace Go.Proofs.Lx
open Go.Vm Go.RowKit
theorem putRow_heap {α : Type} [Inhabited α] (enc : α → Value) (w : World) (b n : Nat) (d : Array α) (os : Array Obj) :
   (∀ k, k < w.heap.size → k ≠ b → (Sort.grow (Sort.putRow enc (Sort.ahead w n) b 0 d) os).heap[k]? = w.heap[k]?) ∧ w.heap.size ≤ (Sort.grow (Sort.putRow enc (Sort.ahead w n) b 0 d) os).heap.size ∧
     ∀ vs e fr, w.heap[b]? = some (.cells vs e fr) → (Sort.grow (Sort.putRow enc (Sort.ahead w n) b 0 d) os).heap[b]? = some (.cells (Sort.putCells enc 0 d vs) e fr) := by
 have hs : (Sort.putRow enc (Sort.ahead w n) b 0 d).heap.size = w.heap.size := by simp [Sort.putRow, Sort.mapBlock, Sort.ahead]
 have hg : ∀ k, k < w.heap.size → (Sort.grow (Sort.putRow enc (Sort.ahead w n) b 0 d) os).heap[k]? = (w.heap.modify b (Sort.onCells (Sort.putCells enc 0 d)))[k]? := fun k hk => by
   show ((Sort.putRow enc (Sort.ahead w n) b 0 d).heap ++ os)[k]? = _
   rw [Array.getElem?_append_left (by rw [hs]; exact hk)]; rfl
 refine ⟨fun k hk hne => ?_, ?_, fun vs e fr hb => ?_⟩
 · rw [hg k hk, Array.getElem?_modify, if_neg (fun e => hne e.symm)]
 · show w.heap.size ≤ ((Sort.putRow enc (Sort.ahead w n) b 0 d).heap ++ os).size
   rw [Array.size_append, hs]; omega
 · rw [hg b (lt_of_heap hb), Array.getElem?_modify, if_pos rfl, hb]; rfl
def vAv {α : Type} (enc : α → Value) (x : α) : AV := .v (enc x)
theorem flat_v {α : Type} (enc : α → Value) (l : List α) : flat (l.map (vAv enc)) = l.map (vAv enc) := by
 unfold flat
 induction l with
 | nil => rfl
 | cons x r ih => rw [zLa, List.flatMap_cons, ih]; rfl
def sortVSpec {α : Type} (enc : α → Value) (R : List α → Prop) : Vm.Spec := fun args h Q => ∃ (l : List α) (h0 : Heap) (c e : Nat), args = [.osl h0.length 0 l.length c] ∧ h = h0 ++ [.row e (c * 1) (flat (l.map (vAv enc)))] ∧ l.length < 4611686018427387904 ∧ l.length ≤ c ∧
 ∀ l' : List α, l'.Perm l → R l' → Q (.tup []) (h0 ++ [.row e (c * 1) (flat (l'.map (vAv enc)))])
theorem does_sortV {α : Type} [Inhabited α] {f : FuncId} {R : List α → Prop} (enc : α → Value) (hp : ∀ x, plain (enc x) = true) (h1 : ∀ x, (enc x).oneCell' = true) (hcall : Callable Tryz.prog f)
   (key : ∀ (blk cap : Nat) (l : List α) (w : World), Sort.Holds enc w blk 0 l.toArray → blk < w.heap.size → l.length < 4611686018427387904 →
     Calls Tryz.prog f #[.slice (some ⟨blk, 0, none⟩) l.length cap] w fun e w' => e = .returned (.tuple #[]) ∧ ∃ (n : Nat) (os : Array Obj) (l' : List α), (l'.Perm l ∧ R l') ∧ w' = Sort.grow (Sort.putRow enc (Sort.ahead w n) blk 0 l'.toArray) os) :
   Does Tryz.prog f (sortVSpec enc R) := by
 refine ⟨hcall, ?_⟩
 rintro args h Q ⟨l, h0, c, e, rfl, rfl, hln, hlc, hq⟩ w g vs hvs hrep hh hfr hlaid
 have hm : h0.length < g.n := by rw [← hh.n]; simp
 generalize hb : g.loc h0.length = b
 have hrow : RowE w g e (c * 1) (flat (l.map (vAv enc))) b := by
   have : ObjRep w g (.row e (c * 1) (flat (l.map (vAv enc)))) (g.loc h0.length) := hh.obj h0.length _ (heap_last _ _)
   rw [hb] at this; exact this
 have hblt : b < w.heap.size := by rw [← hb]; exact hh.lt _ hm
 have hv0 : vs.getD 0 undef = .slice (some ⟨b, 0, none⟩) l.length c := by
   have := hrep 0 _ rfl
   generalize vs.getD 0 undef = v at this
   cases this with | osl => rw [hb]
 have hvs2 : vs = #[.slice (some ⟨b, 0, none⟩) l.length c] := by
   have h2 : vs.size = 1 := hvs
   apply Array.ext
   · simpa using h2
   · intro i hi1 hi2
     have : i = 0 := by omega
     subst this
     simpa [Array.getD, h2] using hv0
 subst hvs2
 obtain ⟨cur, a1, a2, a3, a4, a5, a6⟩ := hrow
 have hfl : (flat (l.map (vAv enc))).length = l.length := by rw [flat_v, zKa]
 have hcur : ∀ j (hj : j < l.length), cur.getD j undef = enc l[j] := fun j hj => by
   have := a6 j (vAv enc l[j]) (by rw [flat_v, zSb, zRa hj]; rfl)
   exact (rep_v this).1
 have hH : Sort.Holds enc w b 0 l.toArray := fun j hj => by
   have hj : j < l.length := by simpa using hj
   have hjc : j < cur.size := by omega
   rw [Nat.zero_add]
   refine ⟨?_, ?_⟩
   · rw [cell_of_row w b j cur e (0, 0) a1]
     have := hcur j hj
     have e2 : (l.toArray)[j]! = l[j] := by rw [getElem!_pos l.toArray j (by simpa using hj)]; simp
     rw [e2, ← this]
     simp [Array.getD, hjc]
   · simp [World.frozen?, a1]
 refine (key b c l w hH hblt hln).mono ?_
 rintro e' w' ⟨rfl, n, os, l', ⟨hperm, hR⟩, rfl⟩
 obtain ⟨q1, q2, q3⟩ := putRow_heap enc w b n l'.toArray os
 have hlen : l'.length = l.length := hperm.length_eq
 generalize hW : Sort.grow (Sort.putRow enc (Sort.ahead w n) b 0 l'.toArray) os = w' at q1 q2 q3
 have hos : w'.os = w.os ∧ w'.tape = w.tape ∧ w'.output = w.output := by rw [← hW]; exact ⟨rfl, rfl, rfl⟩
 have hk : Keeps w g w' g := ⟨fun _ => zYa _, fun k j v hj hv => by
   have hkb : k ≠ b := fun e => by rw [e, a4] at hj; omega
   have hkl : k < w.heap.size := by
     rcases Nat.lt_or_ge k w.heap.size with h | h
     · exact h
     · rw [hfr k h] at hj; omega
   rw [World.cell?_of_block (a := ⟨k, j, none⟩) (q1 k hkl hkb)]; exact hv, zYa _, fun _ _ => rfl⟩
 have hrow' : RowE w' g e (c * 1) (flat (l'.map (vAv enc))) b := by
   have hnew : ∀ j (hj : j < l'.length), (Sort.putCells enc 0 l'.toArray cur).getD j undef = enc l'[j] := fun j hj => by
     have hjc : j < cur.size := by omega
     have e2 : (l'.toArray)[j]! = l'[j] := by rw [getElem!_pos l'.toArray j (by simpa using hj)]; simp
     rw [← e2]
     simp only [Sort.putCells]
     simp [Array.getD, hjc, hj]
   refine ⟨_, q3 cur e (0, 0) a1, by simp [Sort.putCells, a2], by rw [flat_v, zKa]; omega, a4, fun j hj => ?_, fun j u hu => ?_⟩
   · rw [flat_v, zKa] at hj
     rw [hnew j hj]; exact h1 _
   · rw [flat_v, zSb] at hu
     have hj : j < l'.length := by
       rcases Nat.lt_or_ge j l'.length with h | h
       · exact h
       · rw [zJb h] at hu; cases hu
     rw [zRa hj] at hu
     cases hu
     rw [hnew j hj]
     exact .v (hp _)
 refine ⟨.tup [], h0 ++ [.row e (c * 1) (flat (l'.map (vAv enc)))], g, .tuple #[], hq l' hperm hR, rfl, .tup rfl (fun j u hu => by simp at hu), ?_, ?_, zYa _, fun _ _ => rfl, fun _ _ => rfl, fun i hi h1 => by omega, fun k hk' => hfr k (Nat.le_trans q2 hk')⟩
 · refine ⟨by rw [← hh.n]; simp, fun i hi => Nat.lt_of_lt_of_le (hh.lt i hi) q2, hh.inj, fun i o ho => ?_⟩
   rcases Nat.lt_or_ge i h0.length with hi | hi
   · rw [zNb hi] at ho
     have hig : i < g.n := by omega
     have hne : g.loc i ≠ b := fun e => by
       have := hh.inj i h0.length hig hm (e.trans hb.symm)
       omega
     exact (hh.obj i o (by rw [zNb hi]; exact ho)).keepAt hk ⟨q1 _ (hh.lt i hig) hne, rfl⟩
   · have hie : i = h0.length := by
       rcases Nat.lt_or_ge i (h0.length + 1) with h | h
       · omega
       · rw [zJb (by simp; omega)] at ho; cases ho
     subst hie
     rw [heap_last] at ho
     cases ho
     show RowE _ _ _ _ _ (g.loc h0.length)
     rw [hb]; exact hrow'
 · exact ⟨hos.1, hos.2.1, hos.2.2, q2, fun k hk' hno => q1 k hk' fun e => hno _ hm (hb.trans e.symm)⟩
def sortVNil : Vm.Spec := fun args h Q => args = [.v (.slice none 0 0)] ∧ Q (.tup []) h
theorem does_sortVNil {f : FuncId} (hcall : Callable Tryz.prog f) (key : ∀ w : World, Calls Tryz.prog f #[.slice none 0 0] w fun e w' => e = .returned (.tuple #[]) ∧ w' = w) : Does Tryz.prog f sortVNil := by
 refine ⟨hcall, ?_⟩
 rintro args h Q ⟨rfl, hq⟩ w g vs hvs hrep hh hfr hlaid
 have hv0 : vs.getD 0 undef = .slice none 0 0 := (rep_v (hrep 0 _ rfl)).1
 have hvs2 : vs = #[.slice none 0 0] := by
   have h2 : vs.size = 1 := hvs
   apply Array.ext
   · simpa using h2
   · intro i hi1 hi2
     have : i = 0 := by omega
     subst this
     simpa [Array.getD, h2] using hv0
 rw [hvs2]
 refine (key w).mono ?_
 rintro e' w' ⟨rfl, rfl⟩
 exact ⟨.tup [], h, g, .tuple #[], hq, rfl, .tup rfl (fun j u hu => by simp at hu), hh, ⟨rfl, rfl, rfl, zYa _, fun _ _ _ => rfl⟩, zYa _, fun _ _ => rfl, fun _ _ => rfl, fun i hi h1 => by omega, hfr⟩
theorem does_sortS : Does Tryz.prog 130 (orS (sortVSpec strK fun _ => True) sortVNil) :=
 have hc : Callable Tryz.prog 130 := ⟨Tryz.f130, Tryz.func130, by kernel_rfl, by decide +kernel⟩
 does_or (does_sortV strK (fun _ => rfl) (fun _ => rfl) hc fun blk cap l w hH hb hl => (Any.slices_Sort_string Tryz.sortStr blk 0 cap l w hH hb hl).mono fun e w' ⟨h1, n, os, h2⟩ => ⟨h1, n, os, _, ⟨List.mergeSort_perm .., trivial⟩, h2⟩)
   (does_sortVNil hc fun w => Any.slices_Sort_string_none Tryz.sortStr none 0 w)
end Go.Proofs.Lx
namespace Go.Proofs.Lx
open Go.Vm
attribute [local irreducible] awpArr awpBin awpMake awpAppend awpCvX awpStrOf awpBinX awpSlice awpBS awpStore awpAlloc awpCopy awpIndex awpDraw awpIdxX awpFa awpField awpLookup awpUpdate awpDelete awpClear awpRange awpNext awpEntry awpBuild awpClearS awpIdxL awpTree appB awpIdxO eltA treeA
def keysSpec : Vm.Spec := fun args h Q => ∃ (ic : Nat) (chg : List Ent) (clk : Nat), args = [.mp ic] ∧ h[ic]? = some (.map chg clk) ∧ (∀ e ∈ chg, WfC e) ∧ Born chg clk ∧ chg.length ≤ 1073741824 ∧ (∀ e ∈ chg, (kOf e).length ≤ 32) ∧
 ∀ l : List (List UInt8), l.length ≤ chg.length → (∀ k ∈ l, k.length ≤ 32) → Q (.own true 9 1 (l.map (vAv strK))) h
theorem does_keys : Does Tryz.prog 74 keysSpec := by
 refine dA (good_cons does_sortS good_nil) Tryz.func74 rfl (by decide +kernel) ?_
 rintro args h Q ⟨ic, chg, clk, rfl, g0, hw, hb, hn, hk32, hq⟩
 refine ⟨by simp [Tryz.f74], ?_⟩
 simp -dsimp only [Vm.G, zA, zB, zC, zD, zE, zF, q74.1]
 refine range_intro mt71 chg clk g0 ?_
 simp -dsimp only [Vm.G, zA, zB, zC, zD, zE, zF, q74.1]
 refine awp_loop (fun m s h' => ∃ done : List Ent, m = (leftE chg (done.map (·.born))).length ∧ done.length + m ≤ chg.length ∧ h' = h ∧ (∀ d ∈ done, d ∈ chg) ∧ (done.map (·.born)).Nodup ∧ s = mk [(3, .own true 9 1 (((done).map kOf).map (vAv strK))), (6, .iter ic clk ((done).map (·.born)) clk)])
   chg.length _ (le_mk _ ?_) ⟨[], (congrArg List.length (List.filter_eq_self.2 fun _ _ => rfl)).symm, by simp, rfl, by simp, by simp, rfl⟩ ?_
 · simp only [Vm.D]
   try simp -dsimp only [Vm.G, zA, zB, zC, zD, zE, zF, q74.1]
   repeat' first | exact .refl _ | exact .nil _ _ _ (by decide) | refine ⟨?_, ?_⟩
 · rintro m s h' ⟨done, rfl, hlen, rfl, hd, hdn, rfl⟩
   simp -dsimp only [Vm.G, zA, zB, zC, zD, zE, zF, q74.1]
   refine next_intro chg clk g0 (fun e he => hb.2 e he) (zYa _) (fun hlf => ?_) (fun e he => ?_)
   · have hD : done.Perm chg := seen_all hb.1.1 hd hdn hlf
     have hdl := hD.length_eq
     simp -dsimp only [Vm.G, zA, zB, zC, zD, zE, zF, q74.1]
     refine call_in _ _ _ ?_
     simp -dsimp only [Vm.G, zA, zB, zC, zD, zE, zF, q74.1, callI_eq, ownSl_own, ownSl_alias]
     refine callI_tup (S := orS (sortVSpec strK fun _ => True) sortVNil) (fun xs' => ∃ l' : List (List UInt8), xs' = l'.map (vAv strK) ∧ l'.Perm (done.map kOf)) rfl
       (fun xs' hx => ?_) (fun hx => ⟨?_, fun Q' hq' => .inr ⟨rfl, hq'⟩⟩) (fun c hc Q' hq' => .inl ⟨done.map kOf, _, c, 9, by rw [zKa], rfl, by rw [zKa]; omega, by rw [zKa] at hc; exact hc, fun l' hp _ => hq' _ _ ⟨l', rfl, hp⟩ ?_⟩) (fun xs' hx => ?_)
     · obtain ⟨l', rfl, hp⟩ := hx
       exact ⟨fun x hx => (hp.map _).mem_iff.1 hx, by rw [zKa, zKa, hp.length_eq]⟩
     · have hnil : done.map kOf = [] := List.map_eq_nil_iff.1 hx
       exact ⟨[], rfl, by rw [hnil]⟩
     · rw [zSa]
       rw [flat_v, zKa, Nat.mul_one]
       exact zYa _
     · obtain ⟨l', rfl, hp⟩ := hx
       have hll := hp.length_eq
       rw [zKa] at hll
       have hks : ∀ k ∈ l', k.length ≤ 32 := fun k hk => by
         obtain ⟨e, he, rfl⟩ := zPb.1 (hp.mem_iff.1 hk)
         exact hk32 e (hd e he)
       simp -dsimp only [Vm.G, zA, zB, zC, zD, zE, zF, q74.1]
       exact hq l' (by omega) hks
   · obtain ⟨hem, heb⟩ := left_mem he
     obtain ⟨⟨k, hk⟩, x, l, b, hx, hl, hev⟩ := hw e hem
     obtain ⟨hd2, hdn2⟩ := done_more he hd hdn
     have hless := left_less he
     have emap : (done ++ [e]).map (·.born) = done.map (·.born) ++ [e.born] := by simp
     have hkk := kOf_eq hk
     simp -dsimp only [Vm.G, zA, zB, zC, zD, zE, zF, q74.1]
     refine entry_intro chg clk e g0 (find_born hb.1.1 hem) ?_
     simp only [hk, strK]
     simp -dsimp only [Vm.G, zA, zB, zC, zD, zE, zF, q74.1]
     refine bs_intro zr9 (by decide) (by decide) rfl rfl (by simp [solid, AV.cells]) ?_
     simp -dsimp only [Vm.G, zA, zB, zC, zD, zE, zF, q74.1]
     refine app_sl Tryz.underlying133 (by simp [AV.cells]) (by simp only [zKa, zNa, zOa]; omega) ?_
     simp -dsimp only [Vm.G, zA, zB, zC, zD, zE, zF, q74.1]
     refine kept_intro ⟨_, hless, _, le_mk [(3, .own true 9 1 (((done ++ [e]).map kOf).map (vAv strK))), (6, .iter ic clk ((done ++ [e]).map (·.born)) clk)] ?_, done ++ [e], by rw [emap], by rw [zQa]; simp only [zNa, zOa]; omega, rfl, hd2, hdn2, rfl⟩
     simp only [Vm.D, zJa, zLa, zMa, hkk, vAv, strK]
     try simp -dsimp only [Vm.G, zA, zB, zC, zD, zE, zF, q74.1, zJa, zLa, zMa, hkk, vAv, strK]
     repeat' first | exact .refl _ | exact .nil _ _ _ (by decide) | refine ⟨?_, ?_⟩
def wasWSpec : Vm.Spec := fun args h Q => ∃ (iv ic im : Nat) (mem : List Ent) (clk : Nat) (k : List UInt8), args = [.ptr iv 0, .sl 1 (k.map encB)] ∧ h[iv]? = some (vobj ic im) ∧ h[im]? = some (.map mem clk) ∧ (∀ e ∈ mem, WfM e) ∧
 ∀ (l : List UInt8) (b : Bool), Q (.tup [.sl 1 (l.map encB), .v (.bool b)]) h
theorem does_wasW : Does Tryz.prog 75 wasWSpec := by
 refine does_vwas.weak.imp ?_
 rintro args h Q ⟨iv, ic, im, mem, clk, k, rfl, h1, h2, hw, hq⟩
 refine ⟨iv, ic, im, mem, clk, k, rfl, h1, h2, hw, fun e he => ?_, fun he => ?_⟩
 · obtain ⟨-, l, hx, -⟩ := hw e (mget_mem he)
   exact ⟨_, .tup (.cons hx.ga GaL.rfl), hq l true⟩
 · exact ⟨_, .tup (.cons (.nil 1) GaL.rfl), hq [] false⟩
theorem lookup_shape {t kt et : TypeId} {P : Program} {id : Nat} {h : Heap} {K : AV → Prop} {z : Value} (hm : MapT P t kt et .string) (hz : (P.info? et).bind (·.zero) = some z) (hcz : cst z = .agg [.v (.slice none 0 0), .v (.bool false)]) (chg : List Ent) (clk : Nat) (hh : h[id]? = some (.map chg clk)) (hw : ∀ e ∈ chg, WfC e) (k : List UInt8)
   (hK : ∀ x l b, isB x l → l.length ≤ 120 → K (.agg [x, .v (.bool b)])) : awpLookup P t (.mp id) (.v (.string ⟨k.toArray⟩)) false h K := by
 refine lookup_intro hm hz chg clk hh trivial (keys_str fun e he => (hw e he).1) (fun e he => ?_) (fun he => ?_)
 · obtain ⟨-, x, l, b, hx, hl, hev⟩ := hw e (mget_mem he)
   show K e.val
   rw [hev]; exact hK x l b hx hl
 · show K (cst z)
   rw [hcz]; exact hK _ [] false (.inr ⟨rfl, rfl⟩) (by simp)
theorem len_snoc {α : Type} {l : List α} {x : α} {i : Nat} (h : l.length ≤ i) : (l ++ [x]).length ≤ i + 1 := by rw [zQa, List.length_singleton]; omega
def changesSpec : Vm.Spec := fun args h Q => ∃ (V : VId) (f : Fun), args = [.ptr V.iv 0] ∧ isView h V f ∧ f.n ≤ 536870912 ∧ ∀ (p : List KV) (d : List (List UInt8)), Q (.tup [.sl 2 (p.map kvAv), .sl 1 (d.map fun k => .sl 1 (k.map encB))]) h
theorem does_changes : Does Tryz.prog 34 changesSpec := by
 refine dA (good_cons does_vready (good_cons does_keys (good_cons does_wasW (good_cons does_equal (good_cons does_cloneW good_nil))))) Tryz.func34 rfl (by decide +kernel) ?_
 rintro args h Q ⟨V, f, rfl, ⟨chg, clk, mem, clk2, h1, h2, h3, h4, h5, h6, h7, hlen, hk32⟩, hfn, hq⟩
 refine ⟨by simp [Tryz.f34], ?_⟩
 simp -dsimp only [Vm.G, zA, zB, zC, zD, zE, zF, q34.1]
 refine call_one (S := vreadySpec) rfl _ GaL.rfl ⟨V.iv, V.ic, _, rfl, h1, ?_⟩
 simp -dsimp only [Vm.G, zA, zB, zC, zD, zE, zF, q34.1, h1]
 refine call_one (S := keysSpec) rfl _ GaL.rfl ⟨V.ic, chg, clk, rfl, h2, h5.1, h6.1, by omega, fun e he => hk32 e (.inl he), fun ks hkl hks32 => ?_⟩
 simp -dsimp only [Vm.G, zA, zB, zC, zD, zE, zF, q34.1]
 refine awp_loop (fun m s h' => ∃ (i : Nat) (pu : List KV) (de : List (List UInt8)), i + m = ks.length ∧ h' = h ∧ pu.length ≤ i ∧ de.length ≤ i ∧ s = mk [(0, .ptr V.iv 0), (4, .own true 124 2 ((pu).map kvAv)), (5, .own true 107 1 ((de).map fun k => AV.sl 1 (k.map encB))), (18, .own true 9 1 (ks.map (vAv strK))), (19, .v (.int .i64 ks.length)), (20, .v (.int .i64 (i : Nat)))])
   ks.length _ (le_mk _ ?_) ⟨0, [], [], by omega, rfl, by simp, by simp, rfl⟩ ?_
 · simp only [Vm.D]
   try simp -dsimp only [Vm.G, zA, zB, zC, zD, zE, zF, q34.1]
   repeat' first | exact .refl _ | exact .nil _ _ _ (by decide) | refine ⟨?_, ?_⟩
 · rintro m s h' ⟨i, pu, de, hi, rfl, hpu, hde, rfl⟩
   simp -dsimp only [Vm.G, zA, zB, zC, zD, zE, zF, q34.1]
   refine cond_intro (fun hcc => ?_) (fun hcc => ?_)
   · have hlt : i < ks.length := by have := of_decide_eq_true hcc; omega
     have hw2 := hwN i (by omega)
     have hgi : (ks.map (vAv strK))[i]? = some (vAv strK ks[i]) := by rw [zSb, zRa hlt]; rfl
     have hk3 := hks32 ks[i] (zKb hlt)
     generalize ks[i] = k at hgi hk3
     have hks : (ByteArray.mk k.toArray).size ≤ maxLen := by
       have : (ByteArray.mk k.toArray).size = k.length := by simp [ByteArray.size]
       rw [this]; unfold maxLen; omega
     have hkd : (ByteArray.mk k.toArray).data.toList = k := by simp
     simp -dsimp only [Vm.G, zA, zB, zC, zD, zE, zF, q34.1]
     refine idxO_intro (xs := ks.map (vAv strK)) (by omega) (by simp; omega) ?_
     simp -dsimp only [Vm.G, zA, zB, zC, zD, zE, zF, q34.1, zXa]
     refine eltA_intro (xs := ks.map (vAv strK)) hgi ?_
     simp -dsimp only [Vm.G, zA, zB, zC, zD, zE, zF, q34.1, vAv, strK, AV.cells, zVa, h1]
     refine lookup_shape mt71 z136 (by simp [cst, plain]) chg clk h2 h5.1 k (fun x l b hx hl => ?_)
     have hg := hx.ga
     rcases hx with rfl | ⟨hl0, rfl⟩
     · simp -dsimp only [Vm.G, zA, zB, zC, zD, zE, zF, q34.1]
       refine cvX_bytes bt107 Tryz.underlying9 hks ?_
       simp -dsimp only [Vm.G, zA, zB, zC, zD, zE, zF, q34.1, hkd]
       refine call_one (S := wasWSpec) rfl _ GaL.rfl ⟨V.iv, V.ic, V.im, mem, clk2, k, rfl, h1, h3, h5.2, fun old was => ?_⟩
       cases b
       · cases was
         · simp -dsimp only [Vm.G, zA, zB, zC, zD, zE, zF, q34.1]
           refine cvX_bytes bt107 Tryz.underlying9 hks ?_
           simp -dsimp only [Vm.G, zA, zB, zC, zD, zE, zF, q34.1, hkd]
           refine call_one (S := cloneWSpec) rfl _ (GaL.cons hg .nil) ⟨l, by omega, rfl, ?_, ?_⟩
           · simp -dsimp only [Vm.G, zA, zB, zC, zD, zE, zF, q34.1]
             refine bs_intro zr124 (by decide) (by decide) rfl rfl (by simp [solid, AV.cells]) ?_
             simp -dsimp only [Vm.G, zA, zB, zC, zD, zE, zF, q34.1]
             refine app_sl Tryz.underlying76 (by simp [AV.cells]) (by simp only [zKa, zNa, zOa]; omega) ?_
             simp -dsimp only [Vm.G, zA, zB, zC, zD, zE, zF, q34.1]
             refine kept_intro ⟨ks.length - (i + 1), by omega, _, le_mk [(0, .ptr V.iv 0), (4, .own true 124 2 ((pu ++ [(k, l)]).map kvAv)), (5, .own true 107 1 ((de).map fun k => AV.sl 1 (k.map encB))), (18, .own true 9 1 (ks.map (vAv strK))), (19, .v (.int .i64 ks.length)), (20, .v (.int .i64 (i + 1 : Nat)))] ?_, i + 1, _, _, by omega, rfl, by exact len_snoc hpu, by omega, rfl⟩
             simp only [Vm.D, hw2, zJa, zLa, zMa, kvAv]
             try simp -dsimp only [Vm.G, zA, zB, zC, zD, zE, zF, q34.1, hw2, zJa, zLa, zMa, kvAv]
             repeat' first | exact .refl _ | exact .nil _ _ _ (by decide) | refine ⟨?_, ?_⟩
           · simp -dsimp only [Vm.G, zA, zB, zC, zD, zE, zF, q34.1]
             refine bs_intro zr124 (by decide) (by decide) rfl rfl (by simp [solid, AV.cells]) ?_
             simp -dsimp only [Vm.G, zA, zB, zC, zD, zE, zF, q34.1]
             refine app_sl Tryz.underlying76 (by simp [AV.cells]) (by simp only [zKa, zNa, zOa]; omega) ?_
             simp -dsimp only [Vm.G, zA, zB, zC, zD, zE, zF, q34.1]
             refine kept_intro ⟨ks.length - (i + 1), by omega, _, le_mk [(0, .ptr V.iv 0), (4, .own true 124 2 ((pu ++ [(k, l)]).map kvAv)), (5, .own true 107 1 ((de).map fun k => AV.sl 1 (k.map encB))), (18, .own true 9 1 (ks.map (vAv strK))), (19, .v (.int .i64 ks.length)), (20, .v (.int .i64 (i + 1 : Nat)))] ?_, i + 1, _, _, by omega, rfl, by exact len_snoc hpu, by omega, rfl⟩
             simp only [Vm.D, hw2, zJa, zLa, zMa, kvAv]
             try simp -dsimp only [Vm.G, zA, zB, zC, zD, zE, zF, q34.1, hw2, zJa, zLa, zMa, kvAv]
             repeat' first | exact .refl _ | exact .nil _ _ _ (by decide) | refine ⟨?_, ?_⟩
         · simp -dsimp only [Vm.G, zA, zB, zC, zD, zE, zF, q34.1]
           refine call_one (S := equalSpec) rfl _ (GaL.cons (.refl _) (GaL.cons hg .nil)) ⟨old, _, rfl, ?_⟩
           have he := zIa (old == l)
           rcases he with c | c
           · simp -dsimp only [Vm.G, zA, zB, zC, zD, zE, zF, q34.1, c]
             refine kept_intro ⟨ks.length - (i + 1), by omega, _, le_mk [(0, .ptr V.iv 0), (4, .own true 124 2 ((pu).map kvAv)), (5, .own true 107 1 ((de).map fun k => AV.sl 1 (k.map encB))), (18, .own true 9 1 (ks.map (vAv strK))), (19, .v (.int .i64 ks.length)), (20, .v (.int .i64 (i + 1 : Nat)))] ?_, i + 1, _, _, by omega, rfl, by omega, by omega, rfl⟩
             simp only [Vm.D, hw2, zJa, zLa, zMa, kvAv]
             try simp -dsimp only [Vm.G, zA, zB, zC, zD, zE, zF, q34.1, hw2, zJa, zLa, zMa, kvAv]
             repeat' first | exact .refl _ | exact .nil _ _ _ (by decide) | refine ⟨?_, ?_⟩
           · simp -dsimp only [Vm.G, zA, zB, zC, zD, zE, zF, q34.1, c]
             refine cvX_bytes bt107 Tryz.underlying9 hks ?_
             simp -dsimp only [Vm.G, zA, zB, zC, zD, zE, zF, q34.1, hkd]
             refine call_one (S := cloneWSpec) rfl _ (GaL.cons hg .nil) ⟨l, by omega, rfl, ?_, ?_⟩
             · simp -dsimp only [Vm.G, zA, zB, zC, zD, zE, zF, q34.1]
               refine bs_intro zr124 (by decide) (by decide) rfl rfl (by simp [solid, AV.cells]) ?_
               simp -dsimp only [Vm.G, zA, zB, zC, zD, zE, zF, q34.1]
               refine app_sl Tryz.underlying76 (by simp [AV.cells]) (by simp only [zKa, zNa, zOa]; omega) ?_
               simp -dsimp only [Vm.G, zA, zB, zC, zD, zE, zF, q34.1]
               refine kept_intro ⟨ks.length - (i + 1), by omega, _, le_mk [(0, .ptr V.iv 0), (4, .own true 124 2 ((pu ++ [(k, l)]).map kvAv)), (5, .own true 107 1 ((de).map fun k => AV.sl 1 (k.map encB))), (18, .own true 9 1 (ks.map (vAv strK))), (19, .v (.int .i64 ks.length)), (20, .v (.int .i64 (i + 1 : Nat)))] ?_, i + 1, _, _, by omega, rfl, by exact len_snoc hpu, by omega, rfl⟩
               simp only [Vm.D, hw2, zJa, zLa, zMa, kvAv]
               try simp -dsimp only [Vm.G, zA, zB, zC, zD, zE, zF, q34.1, hw2, zJa, zLa, zMa, kvAv]
               repeat' first | exact .refl _ | exact .nil _ _ _ (by decide) | refine ⟨?_, ?_⟩
             · simp -dsimp only [Vm.G, zA, zB, zC, zD, zE, zF, q34.1]
               refine bs_intro zr124 (by decide) (by decide) rfl rfl (by simp [solid, AV.cells]) ?_
               simp -dsimp only [Vm.G, zA, zB, zC, zD, zE, zF, q34.1]
               refine app_sl Tryz.underlying76 (by simp [AV.cells]) (by simp only [zKa, zNa, zOa]; omega) ?_
               simp -dsimp only [Vm.G, zA, zB, zC, zD, zE, zF, q34.1]
               refine kept_intro ⟨ks.length - (i + 1), by omega, _, le_mk [(0, .ptr V.iv 0), (4, .own true 124 2 ((pu ++ [(k, l)]).map kvAv)), (5, .own true 107 1 ((de).map fun k => AV.sl 1 (k.map encB))), (18, .own true 9 1 (ks.map (vAv strK))), (19, .v (.int .i64 ks.length)), (20, .v (.int .i64 (i + 1 : Nat)))] ?_, i + 1, _, _, by omega, rfl, by exact len_snoc hpu, by omega, rfl⟩
               simp only [Vm.D, hw2, zJa, zLa, zMa, kvAv]
               try simp -dsimp only [Vm.G, zA, zB, zC, zD, zE, zF, q34.1, hw2, zJa, zLa, zMa, kvAv]
               repeat' first | exact .refl _ | exact .nil _ _ _ (by decide) | refine ⟨?_, ?_⟩
       · cases was
         · simp -dsimp only [Vm.G, zA, zB, zC, zD, zE, zF, q34.1]
           refine kept_intro ⟨ks.length - (i + 1), by omega, _, le_mk [(0, .ptr V.iv 0), (4, .own true 124 2 ((pu).map kvAv)), (5, .own true 107 1 ((de).map fun k => AV.sl 1 (k.map encB))), (18, .own true 9 1 (ks.map (vAv strK))), (19, .v (.int .i64 ks.length)), (20, .v (.int .i64 (i + 1 : Nat)))] ?_, i + 1, _, _, by omega, rfl, by omega, by omega, rfl⟩
           simp only [Vm.D, hw2, zJa, zLa, zMa, kvAv]
           try simp -dsimp only [Vm.G, zA, zB, zC, zD, zE, zF, q34.1, hw2, zJa, zLa, zMa, kvAv]
           repeat' first | exact .refl _ | exact .nil _ _ _ (by decide) | refine ⟨?_, ?_⟩
         · simp -dsimp only [Vm.G, zA, zB, zC, zD, zE, zF, q34.1]
           refine cvX_bytes bt107 Tryz.underlying9 hks ?_
           simp -dsimp only [Vm.G, zA, zB, zC, zD, zE, zF, q34.1, hkd]
           refine bs_intro zr107 (by decide) (by decide) rfl rfl (by simp [solid, AV.cells]) ?_
           simp -dsimp only [Vm.G, zA, zB, zC, zD, zE, zF, q34.1]
           refine app_sl Tryz.underlying77 (by simp [AV.cells]) (by simp only [zKa, zNa, zOa]; omega) ?_
           simp -dsimp only [Vm.G, zA, zB, zC, zD, zE, zF, q34.1]
           refine kept_intro ⟨ks.length - (i + 1), by omega, _, le_mk [(0, .ptr V.iv 0), (4, .own true 124 2 ((pu).map kvAv)), (5, .own true 107 1 ((de ++ [k]).map fun k => AV.sl 1 (k.map encB))), (18, .own true 9 1 (ks.map (vAv strK))), (19, .v (.int .i64 ks.length)), (20, .v (.int .i64 (i + 1 : Nat)))] ?_, i + 1, _, _, by omega, rfl, by omega, by exact len_snoc hde, rfl⟩
           simp only [Vm.D, hw2, zJa, zLa, zMa, kvAv]
           try simp -dsimp only [Vm.G, zA, zB, zC, zD, zE, zF, q34.1, hw2, zJa, zLa, zMa, kvAv]
           repeat' first | exact .refl _ | exact .nil _ _ _ (by decide) | refine ⟨?_, ?_⟩
     · simp -dsimp only [Vm.G, zA, zB, zC, zD, zE, zF, q34.1]
       refine cvX_bytes bt107 Tryz.underlying9 hks ?_
       simp -dsimp only [Vm.G, zA, zB, zC, zD, zE, zF, q34.1, hkd]
       refine call_one (S := wasWSpec) rfl _ GaL.rfl ⟨V.iv, V.ic, V.im, mem, clk2, k, rfl, h1, h3, h5.2, fun old was => ?_⟩
       cases b
       · cases was
         · simp -dsimp only [Vm.G, zA, zB, zC, zD, zE, zF, q34.1]
           refine cvX_bytes bt107 Tryz.underlying9 hks ?_
           simp -dsimp only [Vm.G, zA, zB, zC, zD, zE, zF, q34.1, hkd]
           refine call_one (S := cloneWSpec) rfl _ (GaL.cons hg .nil) ⟨l, by omega, rfl, ?_, ?_⟩
           · simp -dsimp only [Vm.G, zA, zB, zC, zD, zE, zF, q34.1]
             refine bs_intro zr124 (by decide) (by decide) rfl rfl (by simp [solid, AV.cells]) ?_
             simp -dsimp only [Vm.G, zA, zB, zC, zD, zE, zF, q34.1]
             refine app_sl Tryz.underlying76 (by simp [AV.cells]) (by simp only [zKa, zNa, zOa]; omega) ?_
             simp -dsimp only [Vm.G, zA, zB, zC, zD, zE, zF, q34.1]
             refine kept_intro ⟨ks.length - (i + 1), by omega, _, le_mk [(0, .ptr V.iv 0), (4, .own true 124 2 ((pu ++ [(k, l)]).map kvAv)), (5, .own true 107 1 ((de).map fun k => AV.sl 1 (k.map encB))), (18, .own true 9 1 (ks.map (vAv strK))), (19, .v (.int .i64 ks.length)), (20, .v (.int .i64 (i + 1 : Nat)))] ?_, i + 1, _, _, by omega, rfl, by exact len_snoc hpu, by omega, rfl⟩
             simp only [Vm.D, hw2, zJa, zLa, zMa, kvAv]
             try simp -dsimp only [Vm.G, zA, zB, zC, zD, zE, zF, q34.1, hw2, zJa, zLa, zMa, kvAv]
             repeat' first | exact .refl _ | exact .nil _ _ _ (by decide) | refine ⟨?_, ?_⟩
           · simp -dsimp only [Vm.G, zA, zB, zC, zD, zE, zF, q34.1]
             refine bs_intro zr124 (by decide) (by decide) rfl rfl (by simp [solid, AV.cells]) ?_
             simp -dsimp only [Vm.G, zA, zB, zC, zD, zE, zF, q34.1]
             refine app_sl Tryz.underlying76 (by simp [AV.cells]) (by simp only [zKa, zNa, zOa]; omega) ?_
             simp -dsimp only [Vm.G, zA, zB, zC, zD, zE, zF, q34.1]
             refine kept_intro ⟨ks.length - (i + 1), by omega, _, le_mk [(0, .ptr V.iv 0), (4, .own true 124 2 ((pu ++ [(k, l)]).map kvAv)), (5, .own true 107 1 ((de).map fun k => AV.sl 1 (k.map encB))), (18, .own true 9 1 (ks.map (vAv strK))), (19, .v (.int .i64 ks.length)), (20, .v (.int .i64 (i + 1 : Nat)))] ?_, i + 1, _, _, by omega, rfl, by exact len_snoc hpu, by omega, rfl⟩
             simp only [Vm.D, hw2, zJa, zLa, zMa, kvAv]
             try simp -dsimp only [Vm.G, zA, zB, zC, zD, zE, zF, q34.1, hw2, zJa, zLa, zMa, kvAv]
             repeat' first | exact .refl _ | exact .nil _ _ _ (by decide) | refine ⟨?_, ?_⟩
         · simp -dsimp only [Vm.G, zA, zB, zC, zD, zE, zF, q34.1]
           refine call_one (S := equalSpec) rfl _ (GaL.cons (.refl _) (GaL.cons hg .nil)) ⟨old, _, rfl, ?_⟩
           have he := zIa (old == l)
           rcases he with c | c
           · simp -dsimp only [Vm.G, zA, zB, zC, zD, zE, zF, q34.1, c]
             refine kept_intro ⟨ks.length - (i + 1), by omega, _, le_mk [(0, .ptr V.iv 0), (4, .own true 124 2 ((pu).map kvAv)), (5, .own true 107 1 ((de).map fun k => AV.sl 1 (k.map encB))), (18, .own true 9 1 (ks.map (vAv strK))), (19, .v (.int .i64 ks.length)), (20, .v (.int .i64 (i + 1 : Nat)))] ?_, i + 1, _, _, by omega, rfl, by omega, by omega, rfl⟩
             simp only [Vm.D, hw2, zJa, zLa, zMa, kvAv]
             try simp -dsimp only [Vm.G, zA, zB, zC, zD, zE, zF, q34.1, hw2, zJa, zLa, zMa, kvAv]
             repeat' first | exact .refl _ | exact .nil _ _ _ (by decide) | refine ⟨?_, ?_⟩
           · simp -dsimp only [Vm.G, zA, zB, zC, zD, zE, zF, q34.1, c]
             refine cvX_bytes bt107 Tryz.underlying9 hks ?_
             simp -dsimp only [Vm.G, zA, zB, zC, zD, zE, zF, q34.1, hkd]
             refine call_one (S := cloneWSpec) rfl _ (GaL.cons hg .nil) ⟨l, by omega, rfl, ?_, ?_⟩
             · simp -dsimp only [Vm.G, zA, zB, zC, zD, zE, zF, q34.1]
               refine bs_intro zr124 (by decide) (by decide) rfl rfl (by simp [solid, AV.cells]) ?_
               simp -dsimp only [Vm.G, zA, zB, zC, zD, zE, zF, q34.1]
               refine app_sl Tryz.underlying76 (by simp [AV.cells]) (by simp only [zKa, zNa, zOa]; omega) ?_
               simp -dsimp only [Vm.G, zA, zB, zC, zD, zE, zF, q34.1]
               refine kept_intro ⟨ks.length - (i + 1), by omega, _, le_mk [(0, .ptr V.iv 0), (4, .own true 124 2 ((pu ++ [(k, l)]).map kvAv)), (5, .own true 107 1 ((de).map fun k => AV.sl 1 (k.map encB))), (18, .own true 9 1 (ks.map (vAv strK))), (19, .v (.int .i64 ks.length)), (20, .v (.int .i64 (i + 1 : Nat)))] ?_, i + 1, _, _, by omega, rfl, by exact len_snoc hpu, by omega, rfl⟩
               simp only [Vm.D, hw2, zJa, zLa, zMa, kvAv]
               try simp -dsimp only [Vm.G, zA, zB, zC, zD, zE, zF, q34.1, hw2, zJa, zLa, zMa, kvAv]
               repeat' first | exact .refl _ | exact .nil _ _ _ (by decide) | refine ⟨?_, ?_⟩
             · simp -dsimp only [Vm.G, zA, zB, zC, zD, zE, zF, q34.1]
               refine bs_intro zr124 (by decide) (by decide) rfl rfl (by simp [solid, AV.cells]) ?_
               simp -dsimp only [Vm.G, zA, zB, zC, zD, zE, zF, q34.1]
               refine app_sl Tryz.underlying76 (by simp [AV.cells]) (by simp only [zKa, zNa, zOa]; omega) ?_
               simp -dsimp only [Vm.G, zA, zB, zC, zD, zE, zF, q34.1]
               refine kept_intro ⟨ks.length - (i + 1), by omega, _, le_mk [(0, .ptr V.iv 0), (4, .own true 124 2 ((pu ++ [(k, l)]).map kvAv)), (5, .own true 107 1 ((de).map fun k => AV.sl 1 (k.map encB))), (18, .own true 9 1 (ks.map (vAv strK))), (19, .v (.int .i64 ks.length)), (20, .v (.int .i64 (i + 1 : Nat)))] ?_, i + 1, _, _, by omega, rfl, by exact len_snoc hpu, by omega, rfl⟩
               simp only [Vm.D, hw2, zJa, zLa, zMa, kvAv]
               try simp -dsimp only [Vm.G, zA, zB, zC, zD, zE, zF, q34.1, hw2, zJa, zLa, zMa, kvAv]
               repeat' first | exact .refl _ | exact .nil _ _ _ (by decide) | refine ⟨?_, ?_⟩
       · cases was
         · simp -dsimp only [Vm.G, zA, zB, zC, zD, zE, zF, q34.1]
           refine kept_intro ⟨ks.length - (i + 1), by omega, _, le_mk [(0, .ptr V.iv 0), (4, .own true 124 2 ((pu).map kvAv)), (5, .own true 107 1 ((de).map fun k => AV.sl 1 (k.map encB))), (18, .own true 9 1 (ks.map (vAv strK))), (19, .v (.int .i64 ks.length)), (20, .v (.int .i64 (i + 1 : Nat)))] ?_, i + 1, _, _, by omega, rfl, by omega, by omega, rfl⟩
           simp only [Vm.D, hw2, zJa, zLa, zMa, kvAv]
           try simp -dsimp only [Vm.G, zA, zB, zC, zD, zE, zF, q34.1, hw2, zJa, zLa, zMa, kvAv]
           repeat' first | exact .refl _ | exact .nil _ _ _ (by decide) | refine ⟨?_, ?_⟩
         · simp -dsimp only [Vm.G, zA, zB, zC, zD, zE, zF, q34.1]
           refine cvX_bytes bt107 Tryz.underlying9 hks ?_
           simp -dsimp only [Vm.G, zA, zB, zC, zD, zE, zF, q34.1, hkd]
           refine bs_intro zr107 (by decide) (by decide) rfl rfl (by simp [solid, AV.cells]) ?_
           simp -dsimp only [Vm.G, zA, zB, zC, zD, zE, zF, q34.1]
           refine app_sl Tryz.underlying77 (by simp [AV.cells]) (by simp only [zKa, zNa, zOa]; omega) ?_
           simp -dsimp only [Vm.G, zA, zB, zC, zD, zE, zF, q34.1]
           refine kept_intro ⟨ks.length - (i + 1), by omega, _, le_mk [(0, .ptr V.iv 0), (4, .own true 124 2 ((pu).map kvAv)), (5, .own true 107 1 ((de ++ [k]).map fun k => AV.sl 1 (k.map encB))), (18, .own true 9 1 (ks.map (vAv strK))), (19, .v (.int .i64 ks.length)), (20, .v (.int .i64 (i + 1 : Nat)))] ?_, i + 1, _, _, by omega, rfl, by omega, by exact len_snoc hde, rfl⟩
           simp only [Vm.D, hw2, zJa, zLa, zMa, kvAv]
           try simp -dsimp only [Vm.G, zA, zB, zC, zD, zE, zF, q34.1, hw2, zJa, zLa, zMa, kvAv]
           repeat' first | exact .refl _ | exact .nil _ _ _ (by decide) | refine ⟨?_, ?_⟩
   · have hge : ¬ i < ks.length := by have := of_decide_eq_false hcc; omega
     simp -dsimp only [Vm.G, zA, zB, zC, zD, zE, zF, q34.1]
     exact hq pu de
theorem heap_set_same {h : Heap} {i : Nat} {x : AObj} (hx : h[i]? = some x) : h.set i x = h := by
 apply List.ext_getElem?
 intro j
 rw [List.getElem?_set]
 split
 · rename_i e; subst e
   split
   · exact hx.symm
   · rename_i hn; exact absurd (get_lt hx) hn
 · rfl
theorem Kept.perm {mem0 done chg mem : List Ent} {clk : Nat} (h : Kept mem0 done mem clk) (hp : done.Perm chg) (hk : ∀ e ∈ chg, ∃ k, e.key = strK k) (hn : (chg.map kOf).Nodup) : Kept mem0 chg mem clk :=
 ⟨h.wf, h.born, by have := hp.length_eq; have := h.len; omega, h.short, fun k => by
   rw [h.now k]
   exact nowOf_perm hp (fun e he => hk e (hp.mem_iff.1 he)) ((hp.map kOf).nodup_iff.2 hn) k⟩
def keepSpec : Vm.Spec := fun args h Q => ∃ (V : VId) (chg mem : List Ent) (clk clk2 : Nat), args = [.ptr V.iv 0] ∧ h[V.iv]? = some (vobj V.ic V.im) ∧ h[V.ic]? = some (.map chg clk) ∧ h[V.im]? = some (.map mem clk2) ∧ (V.iv ≠ V.im ∧ V.ic ≠ V.im) ∧ ((∀ e ∈ chg, WfC e) ∧ ∀ e ∈ mem, WfM e) ∧ (Born chg clk ∧ Born mem clk2) ∧
 (∀ e, e ∈ chg ∨ e ∈ mem → (kOf e).length ≤ 32) ∧ ∀ mem' clk', Kept mem chg mem' clk' → Q (.tup []) (h.set V.im (.map mem' clk'))
theorem does_keep : Does Tryz.prog 35 keepSpec := by
 refine dA good_nil Tryz.func35 rfl (by decide +kernel) ?_
 rintro args h Q ⟨V, chg, mem, clk, clk2, rfl, h1, h2, h3, h4, h5, h6, hk32, hq⟩
 refine ⟨by simp [Tryz.f35], ?_⟩
 simp -dsimp only [Vm.G, zA, zB, zC, zD, zE, zF, q35.1, h1]
 refine range_intro mt71 chg clk h2 ?_
 simp -dsimp only [Vm.G, zA, zB, zC, zD, zE, zF, q35.1]
 refine awp_loop (fun m s h' => ∃ (done me : List Ent) (ck : Nat), m = (leftE chg (done.map (·.born))).length ∧ done.length + m ≤ chg.length ∧ Kept mem done me ck ∧ h' = h.set V.im (.map me ck) ∧ (∀ d ∈ done, d ∈ chg) ∧ (done.map (·.born)).Nodup ∧ s = mk [(0, .ptr V.iv 0), (8, .iter V.ic clk ((done).map (·.born)) clk)])
   chg.length _ (le_mk _ ?_) ⟨[], mem, clk2, (congrArg List.length (List.filter_eq_self.2 fun _ _ => rfl)).symm, by simp, ⟨h5.2, h6.2, by simp, fun e he => hk32 e (.inr he), fun k => rfl⟩, (heap_set_same h3).symm, by simp, by simp, rfl⟩ ?_
 · simp only [Vm.D]
   try simp -dsimp only [Vm.G, zA, zB, zC, zD, zE, zF, q35.1]
   repeat' first | exact .refl _ | exact .nil _ _ _ (by decide) | refine ⟨?_, ?_⟩
 · rintro m s h' ⟨done, me, ck, rfl, hlen, hK, hh, hd, hdn, rfl⟩
   have g1 : h'[V.iv]? = some (vobj V.ic V.im) := by rw [hh, zTa h4.1.symm]; exact h1
   have g2 : h'[V.ic]? = some (.map chg clk) := by rw [hh, zTa h4.2.symm]; exact h2
   have g3 : h'[V.im]? = some (.map me ck) := by rw [hh, zIb (get_lt h3)]
   simp -dsimp only [Vm.G, zA, zB, zC, zD, zE, zF, q35.1]
   refine next_intro chg clk g2 (fun e he => h6.1.2 e he) (zYa _) (fun hlf => ?_) (fun e he => ?_)
   · have hD : done.Perm chg := seen_all h6.1.1.1 hd hdn hlf
     simp -dsimp only [Vm.G, zA, zB, zC, zD, zE, zF, q35.1]
     rw [hh]
     exact hq me ck (hK.perm hD (fun e he => (h5.1 e he).1) h6.1.1.2)
   · obtain ⟨hem, heb⟩ := left_mem he
     obtain ⟨⟨k, hk⟩, x, l, b, hx, hl, hev⟩ := h5.1 e hem
     obtain ⟨hd2, hdn2⟩ := done_more he hd hdn
     have hless := left_less he
     have emap : (done ++ [e]).map (·.born) = done.map (·.born) ++ [e.born] := by simp
     have hkk := kOf_eq hk
     have hke : k.length ≤ 32 := by rw [← hkk]; exact hk32 e (.inl hem)
     have hkd : ∀ e ∈ done, ∃ k, e.key = strK k := fun e he => (h5.1 e (hd e he)).1
     have hnn : ((done ++ [e]).map kOf).Nodup := by
       have hdd : (done ++ [e]).Nodup := by
         exact List.Pairwise.of_map (fun e : Ent => e.born) (fun a b h e => h (by rw [e])) hdn2
       refine List.Pairwise.map kOf (fun a b hab => hab) ?_
       refine hdd.imp_of_mem fun {a b} ha hb hne => ?_
       intro e2
       exact hne (inj_of_map h6.1.1.2 (hd2 a ha) (hd2 b hb) e2)
     simp -dsimp only [Vm.G, zA, zB, zC, zD, zE, zF, q35.1]
     refine entry_intro chg clk e g2 (find_born h6.1.1.1 hem) ?_
     simp only [hk, strK, hev]
     cases b
     · have hx0 := hx
       rcases hx with rfl | ⟨rfl, rfl⟩
       · simp -dsimp only [Vm.G, zA, zB, zC, zD, zE, zF, q35.1]
         refine draw_cont [3] (.take 0 (.take 1 (.take 2 (.take 4 (.take 5 (.take 6 (.alt 3 (.alt 7 (.done) .stop) .stop))))))) (fun s h2 => h2 = h'.set V.im (.map (mput (strK k) (.sl 1 (l.map encB)) ck me) (mclk (strK k) me ck)) ∧ s 0 = .ptr V.iv 0 ∧ s 8 = .iter V.ic clk (done.map (·.born) ++ [e.born]) clk) (by kernel_rfl) (by kernel_rfl) (by kernel_rfl) (by decide) ?_ ?_
         · simp -dsimp only [Vm.G, zA, zB, zC, zD, zE, zF, q35.1, g1]
           refine update_intro mt73 me ck g3 trivial (keys_str fun e he => (hK.wf e he).1) ?_
           simp -dsimp only [Vm.G, zA, zB, zC, zD, zE, zF, q35.1]
           repeat' first | rfl | exact True.intro | refine And.intro ?_ ?_
         · rintro s h2 ⟨rfl, e0, e8⟩
           simp -dsimp only [Vm.G, zA, zB, zC, zD, zE, zF, q35.1, e0, e8]
           refine kept_intro ⟨_, hless, _, le_mk [(0, .ptr V.iv 0), (8, .iter V.ic clk ((done ++ [e]).map (·.born)) clk)] ?_, done ++ [e], _, _, by rw [emap], by rw [zQa]; simp only [zNa, zOa]; omega, hK.put hk (by rw [hev]; exact congrArg some (bytesOf_isB hx0)) hx0 hl hke hkd hnn, by rw [hh, List.set_set], hd2, hdn2, rfl⟩
           simp only [Vm.D, emap, e0, e8]
           try simp -dsimp only [Vm.G, zA, zB, zC, zD, zE, zF, q35.1, emap, e0, e8]
           repeat' first | exact .refl _ | exact .nil _ _ _ (by decide) | refine ⟨?_, ?_⟩
       · simp -dsimp only [Vm.G, zA, zB, zC, zD, zE, zF, q35.1]
         refine draw_cont [3] (.take 0 (.take 1 (.take 2 (.take 4 (.take 5 (.take 6 (.alt 3 (.alt 7 (.done) .stop) .stop))))))) (fun s h2 => h2 = h'.set V.im (.map (mput (strK k) (.v (.slice none 0 0)) ck me) (mclk (strK k) me ck)) ∧ s 0 = .ptr V.iv 0 ∧ s 8 = .iter V.ic clk (done.map (·.born) ++ [e.born]) clk) (by kernel_rfl) (by kernel_rfl) (by kernel_rfl) (by decide) ?_ ?_
         · simp -dsimp only [Vm.G, zA, zB, zC, zD, zE, zF, q35.1, g1]
           refine update_intro mt73 me ck g3 trivial (keys_str fun e he => (hK.wf e he).1) ?_
           simp -dsimp only [Vm.G, zA, zB, zC, zD, zE, zF, q35.1]
           repeat' first | rfl | exact True.intro | refine And.intro ?_ ?_
         · rintro s h2 ⟨rfl, e0, e8⟩
           simp -dsimp only [Vm.G, zA, zB, zC, zD, zE, zF, q35.1, e0, e8]
           refine kept_intro ⟨_, hless, _, le_mk [(0, .ptr V.iv 0), (8, .iter V.ic clk ((done ++ [e]).map (·.born)) clk)] ?_, done ++ [e], _, _, by rw [emap], by rw [zQa]; simp only [zNa, zOa]; omega, hK.put hk (by rw [hev]; exact congrArg some (bytesOf_isB hx0)) hx0 hl hke hkd hnn, by rw [hh, List.set_set], hd2, hdn2, rfl⟩
           simp only [Vm.D, emap, e0, e8]
           try simp -dsimp only [Vm.G, zA, zB, zC, zD, zE, zF, q35.1, emap, e0, e8]
           repeat' first | exact .refl _ | exact .nil _ _ _ (by decide) | refine ⟨?_, ?_⟩
     · have hx0 := hx
       have hs : shapeOf e.val = none := by rw [hev]; rfl
       rcases hx with rfl | ⟨rfl, rfl⟩
       · simp -dsimp only [Vm.G, zA, zB, zC, zD, zE, zF, q35.1, g1]
         refine delete_intro mt73 me ck g3 trivial (keys_str fun e he => (hK.wf e he).1) ?_
         simp -dsimp only [Vm.G, zA, zB, zC, zD, zE, zF, q35.1]
         refine kept_intro ⟨_, hless, _, le_mk [(0, .ptr V.iv 0), (8, .iter V.ic clk ((done ++ [e]).map (·.born)) clk)] ?_, done ++ [e], _, _, by rw [emap], by rw [zQa]; simp only [zNa, zOa]; omega, hK.del hk hs hkd hnn, by rw [hh, List.set_set]; rfl, hd2, hdn2, rfl⟩
         simp only [Vm.D, emap]
         try simp -dsimp only [Vm.G, zA, zB, zC, zD, zE, zF, q35.1, emap]
         repeat' first | exact .refl _ | exact .nil _ _ _ (by decide) | refine ⟨?_, ?_⟩
       · simp -dsimp only [Vm.G, zA, zB, zC, zD, zE, zF, q35.1, g1]
         refine delete_intro mt73 me ck g3 trivial (keys_str fun e he => (hK.wf e he).1) ?_
         simp -dsimp only [Vm.G, zA, zB, zC, zD, zE, zF, q35.1]
         refine kept_intro ⟨_, hless, _, le_mk [(0, .ptr V.iv 0), (8, .iter V.ic clk ((done ++ [e]).map (·.born)) clk)] ?_, done ++ [e], _, _, by rw [emap], by rw [zQa]; simp only [zNa, zOa]; omega, hK.del hk hs hkd hnn, by rw [hh, List.set_set]; rfl, hd2, hdn2, rfl⟩
         simp only [Vm.D, emap]
         try simp -dsimp only [Vm.G, zA, zB, zC, zD, zE, zF, q35.1, emap]
         repeat' first | exact .refl _ | exact .nil _ _ _ (by decide) | refine ⟨?_, ?_⟩
def commitSpec : Vm.Spec := fun args h Q => ∃ (V : VId) (f : Fun), args = [.ptr V.iv 0] ∧ isView h V f ∧ f.n ≤ 536870912 ∧ ∀ h', isView h' V f → memV h' V f → Same h h' [V.ic, V.im] → Q (.v (.int .i64 0)) h'
theorem does_commit : Does Tryz.prog 11 commitSpec := by
 refine dA (good_cons does_vready (good_cons does_changes (good_cons does_keep good_nil))) Tryz.func11 rfl (by decide +kernel) ?_
 rintro args h Q ⟨V, f, rfl, hV, hfn, hq⟩
 refine ⟨by simp [Tryz.f11], ?_⟩
 have hV0 := hV
 obtain ⟨chg, clk, mem, clk2, h1, h2, h3, h4, h5, h6, h7, hlen, hk32⟩ := hV
 simp -dsimp only [Vm.G, zA, zB, zC, zD, zE, zF, q11.1]
 refine call_one (S := vreadySpec) rfl _ GaL.rfl ⟨V.iv, V.ic, _, rfl, h1, ?_⟩
 simp -dsimp only [Vm.G, zA, zB, zC, zD, zE, zF, q11.1]
 refine call_one (S := changesSpec) rfl _ GaL.rfl ⟨V, f, rfl, hV0, hfn, fun p d => ?_⟩
 simp -dsimp only [Vm.G, zA, zB, zC, zD, zE, zF, q11.1, h1, bne_self_eq_false]
 refine nil_pointer Tryz.underlying72 ?_
 simp -dsimp only [Vm.G, zA, zB, zC, zD, zE, zF, q11.1]
 refine call_one (S := keepSpec) rfl _ GaL.rfl ⟨V, chg, mem, clk, clk2, rfl, h1, h2, h3, ⟨h4.2.1, h4.2.2⟩, h5, h6, hk32, fun me ck hK => ?_⟩
 have g1 : (h.set V.im (.map me ck))[V.iv]? = some (vobj V.ic V.im) := by rw [zTa h4.2.1.symm]; exact h1
 have g2 : (h.set V.im (.map me ck))[V.ic]? = some (.map chg clk) := by rw [zTa h4.2.2.symm]; exact h2
 have g3 : (h.set V.im (.map me ck))[V.im]? = some (.map me ck) := zIb (get_lt h3)
 have hsame : Same h (h.set V.im (.map me ck)) [V.ic, V.im] := ⟨by simp, fun i _ hi => zTa (by simp at hi; omega)⟩
 generalize h.set V.im (.map me ck) = hh at g1 g2 g3 hsame ⊢
 simp -dsimp only [Vm.G, zA, zB, zC, zD, zE, zF, q11.1, g1]
 refine clear_intro mt71 chg clk g2 ?_
 simp -dsimp only [Vm.G, zA, zB, zC, zD, zE, zF, q11.1]
 have k1 : (hh.set V.ic (.map [] clk))[V.iv]? = some (vobj V.ic V.im) := by rw [zTa h4.1.symm]; exact g1
 have k2 : (hh.set V.ic (.map [] clk))[V.ic]? = some (.map [] clk) := zIb (get_lt g2)
 have k3 : (hh.set V.ic (.map [] clk))[V.im]? = some (.map me ck) := by rw [zTa h4.2.2]; exact g3
 have hn : ∀ k, f k = memOf me k := fun k => by rw [hK.now k]; exact h7 k
 have hl : me.length ≤ f.n := by have := hK.len; omega
 refine hq _ ⟨[], clk, me, ck, k1, k2, k3, h4, ⟨by simp, hK.wf⟩, ⟨⟨⟨.nil, .nil⟩, by simp⟩, hK.born⟩, hn, by simpa using hl, fun e he => ?_⟩ ⟨me, ck, k3, hn, hl⟩ (hsame.trans ⟨by simp, fun i _ hi => zTa (by simp at hi; omega)⟩)
 rcases he with he | he
 · simp at he
 · exact hK.short e he
def abortSpec : Vm.Spec := fun args h Q => ∃ (V : VId) (f g : Fun), args = [.ptr V.iv 0] ∧ isView h V f ∧ memV h V g ∧ ∀ h', isView h' V g → memV h' V g → Same h h' [V.ic] → Q (.tup []) h'
theorem does_abort : Does Tryz.prog 10 abortSpec := by
 refine dA (good_cons does_vready good_nil) Tryz.func10 rfl (by decide +kernel) ?_
 rintro args h Q ⟨V, f, g, rfl, ⟨chg, clk, mem, clk2, h1, h2, h3, h4, h5, h6, h7, hlen, hk32⟩, ⟨mem', ck', hm1, hm2, hm3⟩, hq⟩
 refine ⟨by simp [Tryz.f10], ?_⟩
 rw [h3] at hm1
 cases hm1
 simp -dsimp only [Vm.G, zA, zB, zC, zD, zE, zF, q10.1]
 refine call_one (S := vreadySpec) rfl _ GaL.rfl ⟨V.iv, V.ic, _, rfl, h1, ?_⟩
 simp -dsimp only [Vm.G, zA, zB, zC, zD, zE, zF, q10.1, h1]
 refine clear_intro mt71 chg clk h2 ?_
 have k1 : (h.set V.ic (.map [] clk))[V.iv]? = some (vobj V.ic V.im) := by rw [zTa h4.1.symm]; exact h1
 have k2 : (h.set V.ic (.map [] clk))[V.ic]? = some (.map [] clk) := zIb (get_lt h2)
 have k3 : (h.set V.ic (.map [] clk))[V.im]? = some (.map mem clk2) := by rw [zTa h4.2.2]; exact h3
 have hsame : Same h (h.set V.ic (.map [] clk)) [V.ic] := Same.set _ _ _
 generalize h.set V.ic (.map [] clk) = hh at k1 k2 k3 hsame ⊢
 simp -dsimp only [Vm.E, zA, zB, zC, zD, zE, zG, zH, q10.1, k1]
 refine store_ptr _ k1 rfl rfl (by simp) ?_
 simp -dsimp only [Vm.G, zA, zB, zC, zD, zE, zF, q10.1]
 rw [heap_set_same k1]
 refine hq hh ⟨[], clk, mem, clk2, k1, k2, k3, h4, ⟨by simp, h5.2⟩, ⟨⟨⟨.nil, .nil⟩, by simp⟩, h6.2⟩, hm2, by simpa using hm3, fun e he => ?_⟩ ⟨mem, clk2, k3, hm2, hm3⟩ hsame
 rcases he with he | he
 · simp at he
 · exact hk32 e (.inr he)
theorem does_rSmall : Does Tryz.prog 204 (predSpec smallP) := by
 refine dA good_nil Tryz.func204 rfl (by decide +kernel) ?_
 rintro args h Q ⟨n, rfl, hq⟩
 refine ⟨by simp [Tryz.f204], ?_⟩
 unfold smallP at hq
 simp -dsimp only [Vm.G, zA, zB, zC, zD, zE, zF, q204.1]
 have h1 := zIa (decide (-1152921504606846976 ≤ n))
 rcases h1 with c1 | c1
 · rw [c1] at hq
   have c2 : decide (n ≥ -1152921504606846976) = true := c1
   simp -dsimp only [Vm.G, zA, zB, zC, zD, zE, zF, q204.1, c2]
   exact hq
 · rw [c1] at hq
   have c2 : decide (n ≥ -1152921504606846976) = false := c1
   simp -dsimp only [Vm.G, zA, zB, zC, zD, zE, zF, q204.1, c2]
   exact hq
theorem does_rFigure : Does Tryz.prog 149 (predSpec figureP) := by
 refine dA good_nil Tryz.func149 rfl (by decide +kernel) ?_
 rintro args h Q ⟨n, rfl, hq⟩
 refine ⟨by simp [Tryz.f149], ?_⟩
 unfold figureP at hq
 simp -dsimp only [Vm.G, zA, zB, zC, zD, zE, zF, q149.1]
 have h1 := zIa (decide (0 ≤ n))
 rcases h1 with c1 | c1
 · rw [c1] at hq
   have c2 : decide (n ≥ 0) = true := c1
   simp -dsimp only [Vm.G, zA, zB, zC, zD, zE, zF, q149.1, c2]
   exact hq
 · rw [c1] at hq
   have c2 : decide (n ≥ 0) = false := c1
   simp -dsimp only [Vm.G, zA, zB, zC, zD, zE, zF, q149.1, c2]
   exact hq
theorem does_rAmt : Does Tryz.prog 145 (predSpec rightA) := by
 refine dA good_nil Tryz.func145 rfl (by decide +kernel) ?_
 rintro args h Q ⟨n, rfl, hq⟩
 refine ⟨by simp [Tryz.f145], ?_⟩
 unfold rightA at hq
 simp -dsimp only [Vm.G, zA, zB, zC, zD, zE, zF, q145.1]
 have h1 := zIa (decide (1 ≤ n))
 rcases h1 with c1 | c1
 · rw [c1] at hq
   have c2 : decide (n ≥ 1) = true := c1
   simp -dsimp only [Vm.G, zA, zB, zC, zD, zE, zF, q145.1, c2]
   exact hq
 · rw [c1] at hq
   have c2 : decide (n ≥ 1) = false := c1
   simp -dsimp only [Vm.G, zA, zB, zC, zD, zE, zF, q145.1, c2]
   exact hq
theorem small_rng (n : Int) : smallP n = true ↔ -1152921504606846976 ≤ n ∧ n ≤ 1152921504606846976 := by simp [smallP]
theorem does_rAllows : Does Tryz.prog 150 allowsSpec := by
 refine dA (good_cons does_rtUsed (good_cons does_rSmall good_nil)) Tryz.func150 rfl (by decide +kernel) ?_
 rintro args h Q ⟨n, more, rfl, hq⟩
 refine ⟨by simp [Tryz.f150], ?_⟩
 unfold allowsOf at hq
 simp only [ndCells]
 simp -dsimp only [Vm.G, zA, zB, zC, zD, zE, zF, q150.1]
 refine call_one (S := usedSpec) rfl _ GaL.rfl ⟨n, rfl, ?_⟩
 simp -dsimp only [Vm.G, zA, zB, zC, zD, zE, zF, q150.1]
 have h1 := zIa (decide (more > 1152921504606846976))
 rcases h1 with c1 | c1
 · have d1 := of_decide_eq_true c1
   rw [if_pos (.inl d1)] at hq
   simp -dsimp only [Vm.G, zA, zB, zC, zD, zE, zF, q150.1, c1]
   exact hq
 · have d1 := of_decide_eq_false c1
   simp -dsimp only [Vm.G, zA, zB, zC, zD, zE, zF, q150.1, c1]
   refine call_one (S := predSpec smallP) rfl _ GaL.rfl ⟨usedOf n, rfl, ?_⟩
   have h2 := zIa (smallP (usedOf n))
   rcases h2 with c2 | c2
   · simp -dsimp only [Vm.G, zA, zB, zC, zD, zE, zF, q150.1, c2]
     refine call_one (S := predSpec smallP) rfl _ GaL.rfl ⟨n.limit, rfl, ?_⟩
     have h3 := zIa (smallP n.limit)
     rcases h3 with c3 | c3
     · rw [if_neg (by rw [c2, c3]; simpa using d1)] at hq
       have b2 := (small_rng _).1 c2
       have b3 := (small_rng _).1 c3
       simp -dsimp only [Vm.G, zA, zB, zC, zD, zE, zF, q150.1, c3]
       have h4 := zIa (decide (more < 1))
       rcases h4 with c4 | c4
       · rw [if_pos (.inl (of_decide_eq_true c4))] at hq
         simp -dsimp only [Vm.G, zA, zB, zC, zD, zE, zF, q150.1, c4]
         exact hq
       · have d4 := of_decide_eq_false c4
         have e : decide (IntKind.i64.wrap (usedOf n + more) ≤ n.limit) = decide (more ≤ w64 (n.limit - usedOf n)) := by
           have w1 : IntKind.i64.wrap (usedOf n + more) = usedOf n + more := wrap_i64 (by omega) (by omega)
           have w2 : w64 (n.limit - usedOf n) = n.limit - usedOf n := wrap_i64 (by omega) (by omega)
           rw [w1, w2]
           by_cases h : more ≤ n.limit - usedOf n
           · rw [decide_eq_true h, decide_eq_true (by omega)]
           · rw [decide_eq_false h, decide_eq_false (by omega)]
         have h5 := zIa (decide (more ≤ w64 (n.limit - usedOf n)))
         rcases h5 with c5 | c5
         · rw [if_pos (.inr (of_decide_eq_true c5))] at hq
           rw [c5] at e
           simp -dsimp only [Vm.G, zA, zB, zC, zD, zE, zF, q150.1, c4, e]
           exact hq
         · rw [if_neg (fun h => h.elim d4 (of_decide_eq_false c5))] at hq
           rw [c5] at e
           simp -dsimp only [Vm.G, zA, zB, zC, zD, zE, zF, q150.1, c4, e]
           have h6 := zIa n.abs
           rcases h6 with c6 | c6
           · rw [c6] at hq
             simp -dsimp only [Vm.G, zA, zB, zC, zD, zE, zF, q150.1, c6]
             exact hq
           · rw [c6] at hq
             simp -dsimp only [Vm.G, zA, zB, zC, zD, zE, zF, q150.1, c6]
             exact hq
     · rw [if_pos (.inr (by rw [c3]; simp))] at hq
       simp -dsimp only [Vm.G, zA, zB, zC, zD, zE, zF, q150.1, c3]
       exact hq
   · rw [if_pos (.inr (by rw [c2]; simp))] at hq
     simp -dsimp only [Vm.G, zA, zB, zC, zD, zE, zF, q150.1, c2]
     exact hq
theorem max3_le (a b c : Int) : decide ((if (if a < b then b else a) < c then c else (if a < b then b else a)) > 9007199254740992) = !(decide (a ≤ 9007199254740992) && (decide (b ≤ 9007199254740992) && decide (c ≤ 9007199254740992))) := by
 by_cases h1 : a ≤ 9007199254740992 <;> by_cases h2 : b ≤ 9007199254740992 <;> by_cases h3 : c ≤ 9007199254740992 <;> simp only [h1, h2, h3, decide_true, decide_false, Bool.and_true, zQb, Bool.true_and, zRb, Bool.not_true, Bool.not_false, decide_eq_true_eq, decide_eq_false_iff_not] <;> (repeat' split) <;> omega
theorem min3_ge (a b c : Int) : decide ((if c < (if b < a then b else a) then c else (if b < a then b else a)) < -9007199254740992) = !(decide (-9007199254740992 ≤ a) && (decide (-9007199254740992 ≤ b) && decide (-9007199254740992 ≤ c))) := by
 by_cases h1 : -9007199254740992 ≤ a <;> by_cases h2 : -9007199254740992 ≤ b <;> by_cases h3 : -9007199254740992 ≤ c <;> simp only [h1, h2, h3, decide_true, decide_false, Bool.and_true, zQb, Bool.true_and, zRb, Bool.not_true, Bool.not_false, decide_eq_true_eq, decide_eq_false_iff_not] <;> (repeat' split) <;> omega
theorem chgRight_rng (c : Chg) : chgRight c = true ↔ (-9007199254740992 ≤ c.pre ∧ c.pre ≤ 9007199254740992) ∧ (-9007199254740992 ≤ c.enc ∧ c.enc ≤ 9007199254740992) ∧ (-9007199254740992 ≤ c.exp ∧ c.exp ≤ 9007199254740992) := by
 simp [chgRight, withinP, and_assoc]
theorem chargeRun_cons (c : Chg) (n : Nd) (r : List Nd) (f : Fun) (w : Bool) : chargeRun c (n :: r) f w = if (atOf c n).2.2 ≠ 0 then (f, false, (atOf c n).2.2) else chargeRun c r (upd f (ndK (atOf c n).1) (some (ndV (atOf c n).1))) (w || (atOf c n).2.1) := rfl
theorem at_nine {c : Chg} {n : Nd} (h : figs n = false ∨ figs (addC c n) = false) : (atOf c n).2.2 = 9 := by
 unfold atOf
 by_cases h1 : figs n = false
 · rw [if_pos h1]
 · rw [if_neg h1, if_pos (h.resolve_left h1)]
def rChargeSpec : Vm.Spec := fun args h Q => ∃ (R : RId) (f : Fun) (year id : Int) (c : Chg), args = [.ptr R.iv 0, .v (.int .i64 year), .v (.int .i64 id), .v (.int .i64 c.pre), .v (.int .i64 c.enc), .v (.int .i64 c.exp)] ∧ isRef h R f ∧ f.n ≤ 536870900 ∧
 ∀ h', isRef h' R (chargeOf f year id c).1 → Same h h' (rFoot R) → Q (.tup [.v (.bool (chargeOf f year id c).2.1), .v (.int .i64 (chargeOf f year id c).2.2)]) h'
theorem does_rCharge : Does Tryz.prog 94 rChargeSpec := by
 refine dA (good_cons does_rtPath (good_cons does_rFigure (good_cons does_rAllows (good_cons does_rtPut good_nil)))) Tryz.func94 rfl (by decide +kernel) ?_
 rintro args h Q ⟨R, f, year, id, c, rfl, hR, hfn, hq⟩
 refine ⟨by simp [Tryz.f94], ?_⟩
 unfold chargeOf at hq
 simp -dsimp only [Vm.G, zA, zB, zC, zD, zE, zF, q94.1]
 refine call_one (S := rtPathSpec) rfl _ GaL.rfl ⟨R, f, year, id, rfl, hR, by omega, ?_⟩
 have hok := pathOf_ok f year 8 id
 have hlen := pathOf_length f year 8 id
 generalize pathOf f year 8 id = path at hok hlen hq ⊢
 simp -dsimp only [Vm.G, zA, zB, zC, zD, zE, zF, q94.1]
 have h1 := zIa ((path.length : Int) == 0)
 rcases h1 with c1 | c1
 · have d1 : path.length = 0 := by have : (path.length : Int) = 0 := by simpa using c1
                                   omega
   rw [if_pos d1] at hq
   simp -dsimp only [Vm.G, zA, zB, zC, zD, zE, zF, q94.1, c1]
   exact hq h hR (.refl _ _)
 · have d1 : ¬ path.length = 0 := by intro e; rw [e] at c1; simp at c1
   rw [if_neg d1] at hq
   have hmax := max3_le c.pre c.enc c.exp
   have hmin := min3_ge c.pre c.enc c.exp
   have hcr := chgRight_rng c
   simp -dsimp only [Vm.G, zA, zB, zC, zD, zE, zF, q94.1, c1]
   have h2 := zIa (decide (c.pre ≤ 9007199254740992) && (decide (c.enc ≤ 9007199254740992) && decide (c.exp ≤ 9007199254740992)))
   rcases h2 with c2 | c2
   · rw [c2] at hmax
     have h3 := zIa (decide (-9007199254740992 ≤ c.pre) && (decide (-9007199254740992 ≤ c.enc) && decide (-9007199254740992 ≤ c.exp)))
     rcases h3 with c3 | c3
     · rw [c3] at hmin
       simp only [Bool.and_eq_true, decide_eq_true_eq] at c2 c3
       rw [if_neg (by rw [hcr.2 ⟨⟨c3.1, c2.1⟩, ⟨c3.2.1, c2.2.1⟩, ⟨c3.2.2, c2.2.2⟩⟩]; decide)] at hq
       clear hcr
       simp -dsimp only [Vm.G, zA, zB, zC, zD, zE, zF, q94.1, hmax, hmin]
       refine awp_loop (fun m s h' => ∃ (i : Nat) (g : Fun) (w : Bool), i + m = path.length ∧ isRef h' R g ∧ g.n ≤ f.n + i ∧ Same h h' (rFoot R) ∧ chargeRun c (path.drop i) g w = chargeRun c path f false ∧ s = mk [(0, .ptr R.iv 0), (3, .v (.int .i64 c.pre)), (4, .v (.int .i64 c.enc)), (5, .v (.int .i64 c.exp)), (14, .own true 28 12 (path.map ndAv)), (15, .v (.bool w)), (16, .v (.int .i64 (i : Nat)))])
         path.length _ (le_mk _ ?_) ⟨0, f, false, by omega, hR, by omega, .refl _ _, rfl, rfl⟩ ?_
       · simp only [Vm.D]
         try simp -dsimp only [Vm.G, zA, zB, zC, zD, zE, zF, q94.1]
         repeat' first | exact .refl _ | exact .nil _ _ _ (by decide) | refine ⟨?_, ?_⟩
       · clear hR hmax hmin
         rintro m s h' ⟨i, g, w, hi, hR, hgn, hsm, hp, rfl⟩
         simp -dsimp only [Vm.G, zA, zB, zC, zD, zE, zF, q94.1]
         refine cond_intro (fun hcc => ?_) (fun hcc => ?_)
         · have hlt : i < path.length := by have := of_decide_eq_true hcc; omega
           have hw := hwN i (by omega)
           have hn := hok path[i] (zKb hlt)
           have hgi : (path.map ndAv)[i]? = some (ndAv path[i]) := by rw [zSb, zRa hlt]; rfl
           rw [zWa hlt] at hp
           generalize path[i] = n at hn hgi hp
           rw [chargeRun_cons] at hp
           simp -dsimp only [Vm.G, zA, zB, zC, zD, zE, zF, q94.1]
           refine idxO_intro (xs := path.map ndAv) (by omega) (by simp; omega) ?_
           simp -dsimp only [Vm.G, zA, zB, zC, zD, zE, zF, q94.1, zXa]
           refine eltA_intro (xs := path.map ndAv) hgi ?_
           simp only [ndAv, ndCells]
           simp -dsimp only [Vm.G, zA, zB, zC, zD, zE, zF, q94.1, AV.cells, zVa]
           refine call_one (S := predSpec figureP) rfl _ GaL.rfl ⟨n.pre, rfl, ?_⟩
           have k1 := zIa (figureP n.pre)
           rcases k1 with k1 | k1
           · simp -dsimp only [Vm.G, zA, zB, zC, zD, zE, zF, q94.1, k1]
             refine call_one (S := predSpec figureP) rfl _ GaL.rfl ⟨n.enc, rfl, ?_⟩
             have k2 := zIa (figureP n.enc)
             rcases k2 with k2 | k2
             · simp -dsimp only [Vm.G, zA, zB, zC, zD, zE, zF, q94.1, k2]
               refine call_one (S := predSpec figureP) rfl _ GaL.rfl ⟨n.exp, rfl, ?_⟩
               have k3 := zIa (figureP n.exp)
               rcases k3 with k3 | k3
               · simp -dsimp only [Vm.G, zA, zB, zC, zD, zE, zF, q94.1, k3]
                 refine call_one (S := predSpec figureP) rfl _ GaL.rfl ⟨(addC c n).pre, rfl, ?_⟩
                 have k4 := zIa (figureP (addC c n).pre)
                 rcases k4 with k4 | k4
                 · simp -dsimp only [Vm.G, zA, zB, zC, zD, zE, zF, q94.1, k4]
                   refine call_one (S := predSpec figureP) rfl _ GaL.rfl ⟨(addC c n).enc, rfl, ?_⟩
                   have k5 := zIa (figureP (addC c n).enc)
                   rcases k5 with k5 | k5
                   · simp -dsimp only [Vm.G, zA, zB, zC, zD, zE, zF, q94.1, k5]
                     refine call_one (S := predSpec figureP) rfl _ GaL.rfl ⟨(addC c n).exp, rfl, ?_⟩
                     have k6 := zIa (figureP (addC c n).exp)
                     rcases k6 with k6 | k6
                     · simp -dsimp only [Vm.G, zA, zB, zC, zD, zE, zF, q94.1, k6]
                       have f1 : figs n = true := by simp only [figs, k1, k2, k3, Bool.and_self]
                       have f2 : figs (addC c n) = true := by simp only [figs, k4, k5, k6, Bool.and_self]
                       have hat : atOf c n = if (allowsOf n (chgSum c)).1 = false then (.zero, false, 11) else (addC c n, (allowsOf n (chgSum c)).2, 0) := by
                         unfold atOf
                         rw [if_neg (by rw [f1]; decide), if_neg (by rw [f2]; decide)]
                       rw [hat] at hp
                       clear hat
                       refine call_one (S := allowsSpec) rfl _ GaL.rfl ⟨n, chgSum c, rfl, ?_⟩
                       generalize allowsOf n (chgSum c) = q at hp ⊢
                       rcases q with ⟨qa, qb⟩
                       have h8 := zIa qa
                       rcases h8 with c8 | c8
                       · subst c8
                         have hp : chargeRun c (path.drop (i + 1)) (upd g (ndK (addC c n)) (some (ndV (addC c n)))) (w || qb) = chargeRun c path f false := hp
                         have han := addC_ok c n hn
                         have hnc : ndCells (addC c n) = [.v (.int .i64 n.year), .v (.int .i64 n.id), .v (.int .i64 n.parent), .v (.int .i64 n.fund), .v (.int .i64 n.obj), .v (.bool n.abs), .v (.int .i64 n.limit), .v (.int .i64 (IntKind.i64.wrap (n.pre + c.pre))), .v (.int .i64 (IntKind.i64.wrap (n.enc + c.enc))), .v (.int .i64 (IntKind.i64.wrap (n.exp + c.exp))), .v (.int .i64 n.lapsed), .v (.int .i64 n.carried)] := rfl
                         generalize addC c n = x at han hnc hp
                         simp -dsimp only [Vm.G, zA, zB, zC, zD, zE, zF, q94.1]
                         cases w
                         · simp -dsimp only [Vm.G, zA, zB, zC, zD, zE, zF, q94.1]
                           refine call_one (S := rtPutSpec) rfl _ GaL.rfl ⟨R, g, x, by rw [hnc], han, hR, by omega, fun h2 g1 g2 => ?_⟩
                           simp -dsimp only [Vm.G, zA, zB, zC, zD, zE, zF, q94.1]
                           refine kept_intro ⟨path.length - (i + 1), by omega, _, le_mk [(0, .ptr R.iv 0), (3, .v (.int .i64 c.pre)), (4, .v (.int .i64 c.enc)), (5, .v (.int .i64 c.exp)), (14, .own true 28 12 (path.map ndAv)), (15, .v (.bool qb)), (16, .v (.int .i64 (i + 1 : Nat)))] ?_, i + 1, _, qb, by omega, g1, by show g.n + 1 ≤ _; omega, hsm.trans g2, hp, rfl⟩
                           simp only [Vm.D, hw]
                           try simp -dsimp only [Vm.G, zA, zB, zC, zD, zE, zF, q94.1, hw]
                           repeat' first | exact .refl _ | exact .nil _ _ _ (by decide) | refine ⟨?_, ?_⟩
                         · simp -dsimp only [Vm.G, zA, zB, zC, zD, zE, zF, q94.1]
                           refine call_one (S := rtPutSpec) rfl _ GaL.rfl ⟨R, g, x, by rw [hnc], han, hR, by omega, fun h2 g1 g2 => ?_⟩
                           simp -dsimp only [Vm.G, zA, zB, zC, zD, zE, zF, q94.1]
                           refine kept_intro ⟨path.length - (i + 1), by omega, _, le_mk [(0, .ptr R.iv 0), (3, .v (.int .i64 c.pre)), (4, .v (.int .i64 c.enc)), (5, .v (.int .i64 c.exp)), (14, .own true 28 12 (path.map ndAv)), (15, .v (.bool true)), (16, .v (.int .i64 (i + 1 : Nat)))] ?_, i + 1, _, true, by omega, g1, by show g.n + 1 ≤ _; omega, hsm.trans g2, hp, rfl⟩
                           simp only [Vm.D, hw]
                           try simp -dsimp only [Vm.G, zA, zB, zC, zD, zE, zF, q94.1, hw]
                           repeat' first | exact .refl _ | exact .nil _ _ _ (by decide) | refine ⟨?_, ?_⟩
                       · subst c8
                         have hp : (g, false, (11 : Int)) = chargeRun c path f false := hp
                         rw [← hp] at hq
                         simp -dsimp only [Vm.G, zA, zB, zC, zD, zE, zF, q94.1]
                         exact hq h' hR hsm
                     · have h9 := at_nine (c := c) (n := n) (.inr (by simp only [figs, k6, zQb, zRb]))
                       have hp9 : (g, false, (9 : Int)) = chargeRun c path f false := by rw [← hp, h9]; rfl
                       rw [← hp9] at hq
                       simp -dsimp only [Vm.G, zA, zB, zC, zD, zE, zF, q94.1, k6]
                       exact hq h' hR hsm
                   · have h9 := at_nine (c := c) (n := n) (.inr (by simp only [figs, k5, zQb, zRb]))
                     have hp9 : (g, false, (9 : Int)) = chargeRun c path f false := by rw [← hp, h9]; rfl
                     rw [← hp9] at hq
                     simp -dsimp only [Vm.G, zA, zB, zC, zD, zE, zF, q94.1, k5]
                     exact hq h' hR hsm
                 · have h9 := at_nine (c := c) (n := n) (.inr (by simp only [figs, k4, zQb, zRb]))
                   have hp9 : (g, false, (9 : Int)) = chargeRun c path f false := by rw [← hp, h9]; rfl
                   rw [← hp9] at hq
                   simp -dsimp only [Vm.G, zA, zB, zC, zD, zE, zF, q94.1, k4]
                   exact hq h' hR hsm
               · have h9 := at_nine (c := c) (n := n) (.inl (by simp only [figs, k3, zQb, zRb]))
                 have hp9 : (g, false, (9 : Int)) = chargeRun c path f false := by rw [← hp, h9]; rfl
                 rw [← hp9] at hq
                 simp -dsimp only [Vm.G, zA, zB, zC, zD, zE, zF, q94.1, k3]
                 exact hq h' hR hsm
             · have h9 := at_nine (c := c) (n := n) (.inl (by simp only [figs, k2, zQb, zRb]))
               have hp9 : (g, false, (9 : Int)) = chargeRun c path f false := by rw [← hp, h9]; rfl
               rw [← hp9] at hq
               simp -dsimp only [Vm.G, zA, zB, zC, zD, zE, zF, q94.1, k2]
               exact hq h' hR hsm
           · have h9 := at_nine (c := c) (n := n) (.inl (by simp only [figs, k1, zQb, zRb]))
             have hp9 : (g, false, (9 : Int)) = chargeRun c path f false := by rw [← hp, h9]; rfl
             rw [← hp9] at hq
             simp -dsimp only [Vm.G, zA, zB, zC, zD, zE, zF, q94.1, k1]
             exact hq h' hR hsm
         · have hge : ¬ i < path.length := by have := of_decide_eq_false hcc; omega
           rw [zMb (by omega)] at hp
           have hp : (g, w, (0 : Int)) = chargeRun c path f false := hp
           rw [← hp] at hq
           simp -dsimp only [Vm.G, zA, zB, zC, zD, zE, zF, q94.1]
           exact hq h' hR hsm
     · rw [c3] at hmin
       rw [if_pos (by
         cases hb : chgRight c
         · rfl
         · have := hcr.1 hb
           simp only [decide_eq_true this.1.1, decide_eq_true this.2.1.1, decide_eq_true this.2.2.1] at c3
           cases c3)] at hq
       simp -dsimp only [Vm.G, zA, zB, zC, zD, zE, zF, q94.1, hmax, hmin]
       exact hq h hR (.refl _ _)
   · rw [c2] at hmax
     rw [if_pos (by
       cases hb : chgRight c
       · rfl
       · have := hcr.1 hb
         simp only [decide_eq_true this.1.2, decide_eq_true this.2.1.2, decide_eq_true this.2.2.2] at c2
         cases c2)] at hq
     simp -dsimp only [Vm.G, zA, zB, zC, zD, zE, zF, q94.1, hmax]
     exact hq h hR (.refl _ _)
theorem does_rPreCheck : Does Tryz.prog 90 preCheckSpec := by
 refine dA (good_cons does_rAmt good_nil) Tryz.func90 rfl (by decide +kernel) ?_
 rintro args h Q ⟨l, hl, rfl, hq⟩
 refine ⟨by simp [Tryz.f90], ?_⟩
 unfold preCheck at hq
 simp -dsimp only [Vm.G, zA, zB, zC, zD, zE, zF, q90.1]
 have h1 := zIa (decide ((l.length : Int) < 1))
 rcases h1 with c1 | c1
 · have d1 := of_decide_eq_true c1
   rw [if_pos (.inl (by omega))] at hq
   simp -dsimp only [Vm.G, zA, zB, zC, zD, zE, zF, q90.1, c1]
   exact hq
 · have d1 := of_decide_eq_false c1
   simp -dsimp only [Vm.G, zA, zB, zC, zD, zE, zF, q90.1, c1]
   have h2 := zIa (decide ((l.length : Int) > 6))
   rcases h2 with c2 | c2
   · have d2 := of_decide_eq_true c2
     rw [if_pos (.inr (.inl (by omega)))] at hq
     simp -dsimp only [Vm.G, zA, zB, zC, zD, zE, zF, q90.1, c2]
     exact hq
   · have d2 := of_decide_eq_false c2
     simp -dsimp only [Vm.G, zA, zB, zC, zD, zE, zF, q90.1, c2]
     refine awp_loop (fun m s h' => ∃ i : Nat, i + m = l.length ∧ h' = h ∧ (∀ j (hj : j < l.length), j < i → wrongL l[j] = false) ∧ s = mk [(0, .sl 4 (l.map lnAv)), (3, .v (.int .i64 (i : Nat)))])
       l.length _ (le_mk _ ?_) ⟨0, by omega, rfl, fun _ _ hj => by omega, rfl⟩ ?_
     · simp only [Vm.D]
       try simp -dsimp only [Vm.G, zA, zB, zC, zD, zE, zF, q90.1]
       repeat' first | exact .refl _ | exact .nil _ _ _ (by decide) | refine ⟨?_, ?_⟩
     · rintro m s h' ⟨i, hi, rfl, hb, rfl⟩
       simp -dsimp only [Vm.G, zA, zB, zC, zD, zE, zF, q90.1]
       refine cond_intro (fun hcc => ?_) (fun hcc => ?_)
       · have hlt : i < l.length := by have := of_decide_eq_true hcc; omega
         have hw := hwN i (by omega)
         have hxe : ∃ x, l[i] = x := ⟨_, rfl⟩
         rcases hxe with ⟨x, hx⟩
         simp -dsimp only [Vm.G, zA, zB, zC, zD, zE, zF, q90.1]
         refine idx_map lnAv l i hlt ?_
         simp only [hx, lnAv, lnCells]
         simp -dsimp only [Vm.G, zA, zB, zC, zD, zE, zF, q90.1, AV.cells]
         refine call_one (S := predSpec rightA) rfl _ GaL.rfl ⟨x.amt, rfl, ?_⟩
         have h3 := zIa (rightA x.amt)
         rcases h3 with c3 | c3
         · have hwx : wrongL x = false := by unfold wrongL; rw [c3]; rfl
           simp -dsimp only [Vm.G, zA, zB, zC, zD, zE, zF, q90.1, c3]
           refine kept_intro ⟨l.length - (i + 1), by omega, _, le_mk [(0, .sl 4 (l.map lnAv)), (3, .v (.int .i64 (i + 1 : Nat)))] ?_, i + 1, by omega, rfl, fun j hj hj2 => ?_, rfl⟩
           · simp only [Vm.D, hw]
             try simp -dsimp only [Vm.G, zA, zB, zC, zD, zE, zF, q90.1, hw]
             repeat' first | exact .refl _ | exact .nil _ _ _ (by decide) | refine ⟨?_, ?_⟩
           · by_cases hji : j = i
             · subst hji; rw [hx]; exact hwx
             · exact hb j hj (by omega)
         · have hwx : wrongL x = true := by unfold wrongL; rw [c3]; rfl
           rw [if_pos (.inr (.inr (List.any_eq_true.2 ⟨x, hx ▸ zKb hlt, hwx⟩)))] at hq
           simp -dsimp only [Vm.G, zA, zB, zC, zD, zE, zF, q90.1, c3]
           exact hq
       · have hge : ¬ i < l.length := by have := of_decide_eq_false hcc; omega
         have hany : l.any wrongL = false := by
           cases ha : l.any wrongL
           · rfl
           · obtain ⟨x, hxm, hwx⟩ := List.any_eq_true.1 ha
             obtain ⟨j, hj, rfl⟩ := zOb hxm
             rw [hb j hj (by omega)] at hwx; cases hwx
         rw [if_neg (fun h => h.elim (fun h => by omega) fun h => h.elim (fun h => by omega) fun h => by rw [hany] at h; cases h)] at hq
         simp -dsimp only [Vm.G, zA, zB, zC, zD, zE, zF, q90.1]
         exact hq
def firstOf (f : Fun) (year : Int) (l : List Ln) : Int := if checkY f year ≠ 0 then checkY f year else preCheck l
def rFirstSpec : Vm.Spec := fun args h Q => ∃ (R : RId) (f : Fun) (year : Int) (l : List Ln), l.length ≤ 9223372036854775807 ∧ args = [.ptr R.iv 0, .v (.int .i64 year), .sl 4 (l.map lnAv)] ∧ isRef h R f ∧ f.n ≤ 536870912 ∧ Q (.v (.int .i64 (firstOf f year l))) h
theorem does_rFirst : Does Tryz.prog 43 rFirstSpec := by
 refine dA (good_cons does_rCheck (good_cons does_rPreCheck good_nil)) Tryz.func43 rfl (by decide +kernel) ?_
 rintro args h Q ⟨R, f, year, l, hl, rfl, hR, hfn, hq⟩
 refine ⟨by simp [Tryz.f43], ?_⟩
 unfold firstOf at hq
 simp -dsimp only [Vm.G, zA, zB, zC, zD, zE, zF, q43.1]
 refine call_one (S := rCheckSpec) rfl _ GaL.rfl ⟨R, f, year, rfl, hR, hfn, ?_⟩
 generalize checkY f year = e at hq ⊢
 simp -dsimp only [Vm.G, zA, zB, zC, zD, zE, zF, q43.1]
 have h1 := zIa (e != 0)
 rcases h1 with c1 | c1
 · rw [if_pos (by simpa using c1)] at hq
   simp -dsimp only [Vm.G, zA, zB, zC, zD, zE, zF, q43.1, c1]
   exact hq
 · rw [if_neg (by simpa using c1)] at hq
   simp -dsimp only [Vm.G, zA, zB, zC, zD, zE, zF, q43.1, c1]
   refine call_one (S := preCheckSpec) rfl _ GaL.rfl ⟨l, hl, rfl, ?_⟩
   simp -dsimp only [Vm.G, zA, zB, zC, zD, zE, zF, q43.1]
   exact hq
theorem does_rLines : Does Tryz.prog 44 linesSpec := by
 refine dA good_nil Tryz.func44 rfl (by decide +kernel) ?_
 rintro args h Q ⟨l, hl, rfl, hq⟩
 refine ⟨by simp [Tryz.f44], ?_⟩
 simp -dsimp only [Vm.G, zA, zB, zC, zD, zE, zF, q44.1]
 refine awp_loop (fun m s h' => ∃ i : Nat, i + m = l.length ∧ h' = h ∧ s = mk [(0, .sl 4 (l.map lnAv)), (3, .own true 47 4 ((ownL (l.take i)).map dlAv)), (4, .v (.int .i64 (i : Nat)))])
   l.length _ (le_mk _ ?_) ⟨0, by omega, rfl, rfl⟩ ?_
 · simp only [Vm.D]
   try simp -dsimp only [Vm.G, zA, zB, zC, zD, zE, zF, q44.1]
   repeat' first | exact .refl _ | exact .nil _ _ _ (by decide) | refine ⟨?_, ?_⟩
 · rintro m s h' ⟨i, hi, rfl, rfl⟩
   simp -dsimp only [Vm.G, zA, zB, zC, zD, zE, zF, q44.1]
   refine cond_intro (fun hcc => ?_) (fun hcc => ?_)
   · have hlt : i < l.length := by have := of_decide_eq_true hcc; omega
     have hw := hwN i (by omega)
     have est : ownL (l.take (i + 1)) = ownL (l.take i) ++ [⟨l[i].node, l[i].amt, 0, 0⟩] := by
       unfold ownL
       rw [zPa hlt, zJa]; rfl
     have hol : (ownL (l.take i)).length ≤ i := by unfold ownL; rw [zKa, zUa]; omega
     have hxe : ∃ x, l[i] = x := ⟨_, rfl⟩
     rcases hxe with ⟨x, hx⟩
     rw [hx] at est
     simp -dsimp only [Vm.G, zA, zB, zC, zD, zE, zF, q44.1]
     refine draw_cont [] (.take 0 (.take 1 (.take 2 (.take 3 (.take 4 (.take 5 (.take 6 (.take 7 (.take 8 (.take 9 (.take 10 (.alt 11 (.alt 12 (.alt 13 (.alt 14 (.done) .stop) .stop) .stop) .stop)))))))))))) (fun s h2 => h2 = h' ∧ s 0 = .sl 4 (l.map lnAv) ∧ s 3 = .own true 47 4 ((ownL (l.take (i + 1))).map dlAv) ∧ s 4 = .v (.int .i64 (i : Nat))) (by kernel_rfl) (by kernel_rfl) (by kernel_rfl) (by decide) ?_ ?_
     · simp -dsimp only [Vm.G, zA, zB, zC, zD, zE, zF, q44.1]
       refine idx_map lnAv l i hlt ?_
       simp only [hx, lnAv, lnCells]
       simp -dsimp only [Vm.G, zA, zB, zC, zD, zE, zF, q44.1, AV.cells]
       refine idx_map lnAv l i hlt ?_
       simp only [hx, lnAv, lnCells]
       simp -dsimp only [Vm.G, zA, zB, zC, zD, zE, zF, q44.1, AV.cells]
       refine bs_intro zr47 (by decide) (by decide) rfl rfl (by simp [solid, AV.cells]) ?_
       simp -dsimp only [Vm.G, zA, zB, zC, zD, zE, zF, q44.1]
       refine app_sl Tryz.underlying43 (by simp [AV.cells]) (by simp only [zKa, zNa, zOa]; omega) ?_
       simp -dsimp only [Vm.G, zA, zB, zC, zD, zE, zF, q44.1]
       simp only [est, zJa, zLa, zMa, dlAv, dlCells]
       repeat' first | rfl | exact True.intro | refine And.intro ?_ ?_
     · rintro s h2 ⟨rfl, e0, e3, e4⟩
       simp -dsimp only [Vm.G, zA, zB, zC, zD, zE, zF, q44.1, e0, e3, e4]
       refine kept_intro ⟨l.length - (i + 1), by omega, _, le_mk [(0, .sl 4 (l.map lnAv)), (3, .own true 47 4 ((ownL (l.take (i + 1))).map dlAv)), (4, .v (.int .i64 (i + 1 : Nat)))] ?_, i + 1, by omega, rfl, rfl⟩
       simp only [Vm.D, hw, e0, e3, e4]
       try simp -dsimp only [Vm.G, zA, zB, zC, zD, zE, zF, q44.1, hw, e0, e3, e4]
       repeat' first | exact .refl _ | exact .nil _ _ _ (by decide) | refine ⟨?_, ?_⟩
   · have hge : ¬ i < l.length := by have := of_decide_eq_false hcc; omega
     simp -dsimp only [Vm.G, zA, zB, zC, zD, zE, zF, q44.1]
     rw [zSa (by omega)]
     exact hq
def mkR (p e x : Int) (d : Dl) : Chg := ⟨w64 (p * d.orig), w64 (e * d.orig), w64 (x * d.orig)⟩
def rChargeLSpec : Vm.Spec := fun args h Q => ∃ (R : RId) (f : Fun) (year : Int) (l : List Dl) (p e x : Int), l.length ≤ 1048576 ∧ args = [.ptr R.iv 0, .v (.int .i64 year), .sl 4 (l.map dlAv), .v (.int .i64 p), .v (.int .i64 e), .v (.int .i64 x)] ∧ isRef h R f ∧ f.n ≤ 268435456 ∧
 ∀ h', isRef h' R (chargeG (mkR p e x) year l f false).1 → Same h h' (rFoot R) → Q (.tup [.v (.bool (chargeG (mkR p e x) year l f false).2.1), .v (.int .i64 (chargeG (mkR p e x) year l f false).2.2)]) h'
attribute [local irreducible] chargeOf chargeG docsPut
theorem does_rChargeL : Does Tryz.prog 46 rChargeLSpec := by
 refine dA (good_cons does_rCharge good_nil) Tryz.func46 rfl (by decide +kernel) ?_
 rintro args h Q ⟨R, f, year, l, p, e, x, hl, rfl, hR, hfn, hq⟩
 refine ⟨by simp [Tryz.f46], ?_⟩
 simp -dsimp only [Vm.G, zA, zB, zC, zD, zE, zF, q46.1]
 refine awp_loop (fun m s h' => ∃ (i : Nat) (g : Fun) (w : Bool), i + m = l.length ∧ isRef h' R g ∧ g.n ≤ f.n + 8 * i ∧ Same h h' (rFoot R) ∧ chargeG (mkR p e x) year (l.drop i) g w = chargeG (mkR p e x) year l f false ∧ s = mk [(0, .ptr R.iv 0), (1, .v (.int .i64 year)), (2, .sl 4 (l.map dlAv)), (3, .v (.int .i64 p)), (4, .v (.int .i64 e)), (5, .v (.int .i64 x)), (14, .v (.bool w)), (15, .v (.int .i64 (i : Nat)))])
   l.length _ (le_mk _ ?_) ⟨0, f, false, by omega, hR, by omega, .refl _ _, rfl, rfl⟩ ?_
 · simp only [Vm.D]
   try simp -dsimp only [Vm.G, zA, zB, zC, zD, zE, zF, q46.1]
   repeat' first | exact .refl _ | exact .nil _ _ _ (by decide) | refine ⟨?_, ?_⟩
 · clear hR
   rintro m s h' ⟨i, g, w, hi, hR, hgn, hsm, hp, rfl⟩
   simp -dsimp only [Vm.G, zA, zB, zC, zD, zE, zF, q46.1]
   refine cond_intro (fun hcc => ?_) (fun hcc => ?_)
   · have hlt : i < l.length := by have := of_decide_eq_true hcc; omega
     have hw := hwN i (by omega)
     rw [zWa hlt] at hp
     have hxe : ∃ y, l[i] = y := ⟨_, rfl⟩
     rcases hxe with ⟨y, hy⟩
     rw [hy] at hp
     have hcn := chargeOf_n g year y.node (mkR p e x y)
     simp -dsimp only [Vm.G, zA, zB, zC, zD, zE, zF, q46.1]
     refine idx_map dlAv l i hlt ?_
     simp only [hy, dlAv, dlCells]
     simp -dsimp only [Vm.G, zA, zB, zC, zD, zE, zF, q46.1, AV.cells]
     refine idx_map dlAv l i hlt ?_
     simp only [hy, dlAv, dlCells]
     simp -dsimp only [Vm.G, zA, zB, zC, zD, zE, zF, q46.1, AV.cells]
     refine call_one (S := rChargeSpec) rfl _ GaL.rfl ⟨R, g, year, y.node, mkR p e x y, rfl, hR, by omega, fun h2 g1 g2 => ?_⟩
     rw [chargeG_cons] at hp
     generalize chargeOf g year y.node (mkR p e x y) = q at hp g1 hcn ⊢
     rcases q with ⟨qf, qw, qe⟩
     simp only at hp g1 hcn ⊢
     simp -dsimp only [Vm.G, zA, zB, zC, zD, zE, zF, q46.1]
     have h1 := zIa (qe != 0)
     rcases h1 with c1 | c1
     · have d1 : qe ≠ 0 := by simpa using c1
       rw [if_pos d1] at hp
       rw [← hp] at hq
       simp -dsimp only [Vm.G, zA, zB, zC, zD, zE, zF, q46.1, c1]
       exact hq h2 g1 (hsm.trans g2)
     · have d1 : ¬ qe ≠ 0 := by simpa using c1
       rw [if_neg d1] at hp
       simp -dsimp only [Vm.G, zA, zB, zC, zD, zE, zF, q46.1, c1]
       cases w
       · simp -dsimp only [Vm.G, zA, zB, zC, zD, zE, zF, q46.1]
         refine kept_intro ⟨l.length - (i + 1), by omega, _, le_mk [(0, .ptr R.iv 0), (1, .v (.int .i64 year)), (2, .sl 4 (l.map dlAv)), (3, .v (.int .i64 p)), (4, .v (.int .i64 e)), (5, .v (.int .i64 x)), (14, .v (.bool qw)), (15, .v (.int .i64 (i + 1 : Nat)))] ?_, i + 1, qf, qw, by omega, g1, by omega, hsm.trans g2, by simpa using hp, rfl⟩
         simp only [Vm.D, hw]
         try simp -dsimp only [Vm.G, zA, zB, zC, zD, zE, zF, q46.1, hw]
         repeat' first | exact .refl _ | exact .nil _ _ _ (by decide) | refine ⟨?_, ?_⟩
       · simp -dsimp only [Vm.G, zA, zB, zC, zD, zE, zF, q46.1]
         refine kept_intro ⟨l.length - (i + 1), by omega, _, le_mk [(0, .ptr R.iv 0), (1, .v (.int .i64 year)), (2, .sl 4 (l.map dlAv)), (3, .v (.int .i64 p)), (4, .v (.int .i64 e)), (5, .v (.int .i64 x)), (14, .v (.bool true)), (15, .v (.int .i64 (i + 1 : Nat)))] ?_, i + 1, qf, true, by omega, g1, by omega, hsm.trans g2, by simpa using hp, rfl⟩
         simp only [Vm.D, hw]
         try simp -dsimp only [Vm.G, zA, zB, zC, zD, zE, zF, q46.1, hw]
         repeat' first | exact .refl _ | exact .nil _ _ _ (by decide) | refine ⟨?_, ?_⟩
   · have hge : ¬ i < l.length := by have := of_decide_eq_false hcc; omega
     rw [zMb (by omega)] at hp
     have hp : (g, w, (0 : Int)) = chargeG (mkR p e x) year l f false := by rw [← hp]; simp only [chargeG]
     rw [← hp] at hq
     simp -dsimp only [Vm.G, zA, zB, zC, zD, zE, zF, q46.1]
     exact hq h' hR hsm
theorem w64_i64 {n : Int} (h : I64 n) : w64 n = n := wrap_i64 h.1 h.2
theorem docsPut_no {f : Fun} {d : Dc} {l : List Dl} (h : (docsPut f d l).2.2 ≠ 0) : (docsPut f d l).2.1 = 0 := by
 revert h
 unfold docsPut
 split
 · intro _; rfl
 · split
   · intro _; rfl
   · intro h; exact absurd rfl h
end Go.Proofs.Lx
namespace Go.Proofs.Lx
open Go.Vm
attribute [local irreducible] awpArr awpBin awpMake awpAppend awpCvX awpStrOf awpBinX awpSlice awpBS awpStore awpAlloc awpCopy awpIndex awpDraw awpIdxX awpFa awpField awpLookup awpUpdate awpDelete awpClear awpRange awpNext awpEntry awpBuild awpClearS awpIdxL awpTree appB awpIdxO eltA treeA
def rComId (R : RId) (h : Heap) : RId := ⟨R.iv, h.length, R.inn, h.length + 1⟩
def rAbId (R : RId) (h : Heap) : RId := ⟨R.iv, R.iw, h.length, h.length + 1⟩
theorem set_two {h : Heap} {i : Nat} (hi : i < h.length) (x y z a : AObj) : ((h ++ [x]).set i y ++ [a]).set i z = h.set i z ++ [x, a] := by
 rw [List.set_append_left _ _ hi, List.append_assoc, List.set_append_left _ _ (by rw [zTb]; exact hi), List.set_set]
 rfl
theorem get_two {h : Heap} {i j : Nat} {x a z o : AObj} (hj : h[j]? = some o) (hne : j ≠ i) : (h.set i z ++ [x, a])[j]? = some o := by
 have hl : j < (h.set i z).length := by rw [zTb]; exact get_lt hj
 rw [zNb hl, zTa (Ne.symm hne)]; exact hj
theorem get_two0 (h : Heap) (i : Nat) (z x a : AObj) : (h.set i z ++ [x, a])[h.length]? = some x := by
 rw [zLb (by simp)]; simp
theorem get_two1 (h : Heap) (i : Nat) (z x a : AObj) : (h.set i z ++ [x, a])[h.length + 1]? = some a := by
 rw [zLb (by simp)]; simp
theorem get_twoI {h : Heap} {i : Nat} (hi : i < h.length) (z x a : AObj) : (h.set i z ++ [x, a])[i]? = some z := by
 rw [zNb (by rw [zTb]; exact hi), zIb hi]
theorem same_two {h : Heap} {i : Nat} (z x a : AObj) : Same h (h.set i z ++ [x, a]) [i] :=
 ⟨by simp, fun j hj hm => by rw [zNb (by rw [zTb]; exact hj), zTa (by simp at hm; omega)]⟩
theorem does_rCom0 : Does Tryz.prog 48 (fun args h Q => ∃ (R : RId) (ln : List KV), args = [.ptr R.iv 0] ∧ h[R.iv]? = some (.cells [.ptr R.iw 0, .ptr R.inn 0, .ptr R.it 0]) ∧ h[R.inn]? = some (tabObj ln) ∧
   Q (.tup []) (h.set R.iv (.cells [.ptr h.length 0, .ptr R.inn 0, .ptr (h.length + 1) 0]) ++ [tabObj ln, .cells [.v (.slice none 0 0)]])) := by
 refine dA good_nil Tryz.func48 rfl (by decide +kernel) ?_
 rintro args h Q ⟨R, ln, rfl, h1, h2, hq⟩
 refine ⟨by simp [Tryz.f48], ?_⟩
 have hlt := get_lt h1
 have k1 : ∀ r, (h ++ r)[R.iv]? = some (.cells [.ptr R.iw 0, .ptr R.inn 0, .ptr R.it 0]) := fun r => heap_get r h1
 unfold tabObj at h2 hq
 simp -dsimp only [Vm.G, zA, zB, zC, zD, zE, zF, q48.1, h1, h2, k1]
 have k2 : ((h ++ [AObj.cells [.sl 2 (ln.map kvAv)]]).set R.iv (.cells [AV.ptr h.length 0, .ptr R.inn 0, .ptr R.it 0]))[R.iv]? = some (.cells [AV.ptr h.length 0, .ptr R.inn 0, .ptr R.it 0]) := zIb (by simp; omega)
 have k3 : ∀ r, (((h ++ [AObj.cells [.sl 2 (ln.map kvAv)]]).set R.iv (.cells [AV.ptr h.length 0, .ptr R.inn 0, .ptr R.it 0])) ++ r)[R.iv]? = some (.cells [AV.ptr h.length 0, .ptr R.inn 0, .ptr R.it 0]) := fun r => heap_get r k2
 have k4 : ((h ++ [AObj.cells [.sl 2 (ln.map kvAv)]]).set R.iv (.cells [AV.ptr h.length 0, .ptr R.inn 0, .ptr R.it 0])).length = h.length + 1 := by simp
 have e1 : putCells [AV.ptr R.iw 0, .ptr R.inn 0, .ptr R.it 0] 0 [.ptr h.length 0] = [AV.ptr h.length 0, .ptr R.inn 0, .ptr R.it 0] := rfl
 try simp only [e1]
 simp -dsimp only [Vm.G, zA, zB, zC, zD, zE, zF, q48.1, k2, k3, k4]
 have e2 : putCells [AV.ptr h.length 0, .ptr R.inn 0, .ptr R.it 0] 2 [.ptr (h.length + 1) 0] = [.ptr h.length 0, .ptr R.inn 0, .ptr (h.length + 1) 0] := rfl
 try simp only [e2]
 rw [set_two hlt]
 exact hq
theorem does_rAb0 : Does Tryz.prog 49 (fun args h Q => ∃ (R : RId) (ln : List KV), args = [.ptr R.iv 0] ∧ h[R.iv]? = some (.cells [.ptr R.iw 0, .ptr R.inn 0, .ptr R.it 0]) ∧ h[R.iw]? = some (tabObj ln) ∧
   Q (.tup []) (h.set R.iv (.cells [.ptr R.iw 0, .ptr h.length 0, .ptr (h.length + 1) 0]) ++ [tabObj ln, .cells [.v (.slice none 0 0)]])) := by
 refine dA good_nil Tryz.func49 rfl (by decide +kernel) ?_
 rintro args h Q ⟨R, ln, rfl, h1, h2, hq⟩
 refine ⟨by simp [Tryz.f49], ?_⟩
 have hlt := get_lt h1
 have k1 : ∀ r, (h ++ r)[R.iv]? = some (.cells [.ptr R.iw 0, .ptr R.inn 0, .ptr R.it 0]) := fun r => heap_get r h1
 unfold tabObj at h2 hq
 simp -dsimp only [Vm.G, zA, zB, zC, zD, zE, zF, q49.1, h1, h2, k1]
 have k2 : ((h ++ [AObj.cells [.sl 2 (ln.map kvAv)]]).set R.iv (.cells [AV.ptr R.iw 0, .ptr h.length 0, .ptr R.it 0]))[R.iv]? = some (.cells [AV.ptr R.iw 0, .ptr h.length 0, .ptr R.it 0]) := zIb (by simp; omega)
 have k3 : ∀ r, (((h ++ [AObj.cells [.sl 2 (ln.map kvAv)]]).set R.iv (.cells [AV.ptr R.iw 0, .ptr h.length 0, .ptr R.it 0])) ++ r)[R.iv]? = some (.cells [AV.ptr R.iw 0, .ptr h.length 0, .ptr R.it 0]) := fun r => heap_get r k2
 have k4 : ((h ++ [AObj.cells [.sl 2 (ln.map kvAv)]]).set R.iv (.cells [AV.ptr R.iw 0, .ptr h.length 0, .ptr R.it 0])).length = h.length + 1 := by simp
 have e1 : putCells [AV.ptr R.iw 0, .ptr R.inn 0, .ptr R.it 0] 1 [.ptr h.length 0] = [AV.ptr R.iw 0, .ptr h.length 0, .ptr R.it 0] := rfl
 try simp only [e1]
 simp -dsimp only [Vm.G, zA, zB, zC, zD, zE, zF, q49.1, k2, k3, k4]
 have e2 : putCells [AV.ptr R.iw 0, .ptr h.length 0, .ptr R.it 0] 2 [.ptr (h.length + 1) 0] = [.ptr R.iw 0, .ptr h.length 0, .ptr (h.length + 1) 0] := rfl
 try simp only [e2]
 rw [set_two hlt]
 exact hq
theorem gaH_two {h : Heap} {i : Nat} (z x : AObj) : GaH (h.set i z ++ [x, .cells [.v (.slice none 0 0)]]) (h.set i z ++ [x, tabObj []]) :=
 GaH.append rfl fun i o' ho' => by
   match i, ho' with
   | 0, ho' => exact ⟨o', ho', .inl rfl⟩
   | 1, ho' => exact ⟨_, rfl, .inr ⟨_, _, rfl, (Option.some.inj ho').symm, .cons (.nil 2) .nil⟩⟩
   | i + 2, ho' => simp at ho'
def rComSpec : Vm.Spec := fun args h Q => ∃ (R : RId) (f : Fun), args = [.ptr R.iv 0] ∧ isRef h R f ∧ ∀ h', isRef h' (rComId R h) f → wasR h' (rComId R h) f → Same h h' [R.iv] → Q (.tup []) h'
theorem does_rCom : Does Tryz.prog 48 rComSpec := by
 refine (does_weakH does_rCom0).imp ?_
 rintro args h Q ⟨R, f, rfl, ⟨lw, ln, lt, h1, h2, h3, h4, ⟨n1, n2, n3, n4, n5⟩, h6, ⟨h7, h8⟩, h9⟩, hq⟩
 refine ⟨h, .refl h, R, ln, rfl, h1, h3, _, gaH_two _ _, ?_⟩
 have hi := get_lt h1
 have hn := get_lt h3
 refine hq _ ⟨ln, ln, [], get_twoI hi _ _ _, get_two0 _ _ _ _ _, get_two h3 n1.symm, get_two1 _ _ _ _ _, ⟨?_, ?_, ?_, ?_, ?_⟩, h6, ⟨h7, by simp⟩, h9⟩ ⟨ln, get_two0 _ _ _ _ _, h6, h7, h9⟩ (same_two _ _ _) <;> (simp only [rComId]; omega)
def rAbSpec : Vm.Spec := fun args h Q => ∃ (R : RId) (f g : Fun), args = [.ptr R.iv 0] ∧ isRef h R f ∧ wasR h R g ∧ ∀ h', isRef h' (rAbId R h) g → wasR h' (rAbId R h) g → Same h h' [R.iv] → Q (.tup []) h'
theorem does_rAb : Does Tryz.prog 49 rAbSpec := by
 refine (does_weakH does_rAb0).imp ?_
 rintro args h Q ⟨R, f, g, rfl, ⟨lw, ln, lt, h1, h2, h3, h4, ⟨n1, n2, n3, n4, n5⟩, h6, ⟨h7, h8⟩, h9⟩, ⟨lw2, w1, w2, w3, w4⟩, hq⟩
 rw [h2] at w1
 have hlw : lw = lw2 := by
   have := Option.some.inj w1
   unfold tabObj at this
   injection this with e
   injection e with e
   injection e with e1 e2
   exact List.map_inj_right (fun a b hab => by
     unfold kvAv at hab
     injection hab with h
     injection h with h1 h2
     injection h2 with h2 h3
     injection h1 with _ h1
     injection h2 with _ h2
     have i1 : a.1 = b.1 := by have := congrArg (List.map unB) h1; simpa [Function.comp_def, unB_encB] using this
     have i2 : a.2 = b.2 := by have := congrArg (List.map unB) h2; simpa [Function.comp_def, unB_encB] using this
     exact Prod.ext i1 i2) |>.1 e2
 subst hlw
 have nw : R.iw ≠ R.iv := fun e => by
   rw [e, h1] at h2
   have := Option.some.inj h2
   unfold tabObj at this
   injection this with e
   have := congrArg List.length e
   simp at this
 refine ⟨h, .refl h, R, lw, rfl, h1, h2, _, gaH_two _ _, ?_⟩
 have hi := get_lt h1
 have hn := get_lt h2
 refine hq _ ⟨lw, lw, [], get_twoI hi _ _ _, get_two h2 nw, get_two0 _ _ _ _ _, get_two1 _ _ _ _ _, ⟨?_, ?_, ?_, ?_, ?_⟩, w2, ⟨w3, by simp⟩, w4⟩ ⟨lw, get_two h2 nw, w2, w3, w4⟩ (same_two _ _ _) <;> (simp only [rAbId]; omega)
def samesSpec : Vm.Spec := fun args h Q => ∃ (V : VId) (R : RId) (f : Fun), args = [.ptr V.iv 0, .ptr R.iv 0] ∧ Both h V R f ∧ f.n ≤ 536870912 ∧ ∀ h', Both h' V R f → Same h h' [] → Q (.v (.bool true)) h'
theorem does_sames : Does Tryz.prog 50 samesSpec := by
 refine dA (good_cons does_scan (good_cons does_rScan (good_cons does_pairs good_nil))) Tryz.func50 rfl (by decide +kernel) ?_
 rintro args h Q ⟨V, R, f, rfl, hB, hn, hq⟩
 refine ⟨by simp [Tryz.f50], ?_⟩
 simp -dsimp only [Vm.G, zA, zB, zC, zD, zE, zF, q50.1]
 refine call_one (S := scanSpec) rfl _ (.cons (.refl _) (.cons (.nil 1) .nil)) ⟨V, f, [], rfl, by simp, hB.1, hn, fun l h1 hsc hln hV1 hs1 => ?_⟩
 have hB1 := hB.quiet hV1 hs1
 simp -dsimp only [Vm.G, zA, zB, zC, zD, zE, zF, q50.1]
 refine call_one (S := rScanSpec) rfl _ (.cons (.refl _) (.cons (.nil 1) .nil)) ⟨R, f, [], rfl, by simp, hB1.2.1, hn, fun l' hsc' hln' => ?_⟩
 obtain rfl := hsc.same hsc'
 simp -dsimp only [Vm.G, zA, zB, zC, zD, zE, zF, q50.1]
 refine call_one (S := pairsSpec) rfl _ GaL.rfl ⟨l, l, by omega, rfl, ?_⟩
 simp -dsimp only [Vm.G, zA, zB, zC, zD, zE, zF, q50.1, decide_true]
 exact hq _ hB1 hs1
theorem both_turn {h h1 h2 : Heap} {V : VId} {R R' : RId} {f k : Fun} (hB : Both h V R f) (hV : isView h1 V k) (hs : Same h h1 [V.ic, V.im]) (hR : isRef h2 R' k) (hs2 : Same h1 h2 [R.iv]) (hm : memV h1 V k) (hw : wasR h2 R' k)
   (hid : R' = rComId R h1 ∨ R' = rAbId R h1) : BothW h2 V R' k k := by
 obtain ⟨hB1, hB2, hB3⟩ := hB
 have hd : ∀ i ∈ [V.iv, V.ic, V.im], i ∉ [R.iv] := fun i hi hm => hB3 i hi (by simp at hm ⊢; exact .inl hm)
 have hlt : ∀ i ∈ [V.iv, V.ic, V.im], i < h1.length := fun i hi => by
   obtain ⟨chg, clk, mem, clk2, h1, h2, h3, h4⟩ := hV
   simp only [List.mem_cons, List.not_mem_nil, or_false] at hi
   rcases hi with rfl | rfl | rfl
   · exact get_lt h1
   · exact get_lt h2
   · exact get_lt h3
 refine ⟨⟨hV.same hs2 hd, hR, fun i hi hmem => ?_⟩, hm.same hs2 (hd _ (by simp)), hw⟩
 have h3 := hB3 i hi
 have h4 := hlt i hi
 simp only [List.mem_cons, List.not_mem_nil, or_false, not_or] at h3 hmem
 rcases hid with rfl | rfl
 · simp only [rComId] at hmem
   omega
 · simp only [rAbId] at hmem
   omega
def turnF (e : Int) (f g : Fun) : Fun := if e = 0 then f else g
def endSpec : Vm.Spec := fun args h Q => ∃ (V : VId) (R : RId) (f g : Fun) (e : Int), args = [.ptr V.iv 0, .ptr R.iv 0, .v (.int .i64 e)] ∧ BothW h V R f g ∧ f.n ≤ 536870912 ∧ g.n ≤ 536870912 ∧
 ∀ (R' : RId) h', R'.iv = R.iv → BothW h' V R' (turnF e f g) (turnF e f g) → Q (.v (.bool true)) h'
def vnewWSpec : Vm.Spec := fun args h Q => args = [nilP] ∧ ∀ (V : VId) (h' : Heap), isView h' V noF → memV h' V noF → Q (.ptr V.iv 0) h'
theorem does_vnewW : Does Tryz.prog 22 vnewWSpec := does_vnew.imp (by
 rintro args h Q ⟨rfl, hq⟩
 refine ⟨rfl, hq ⟨h.length + 2, h.length, h.length + 1⟩ _ (isView_new h) ⟨[], 0, ?_, fun k => rfl, by simp⟩⟩
 rw [zLb (by simp)]; simp)
def rNewWSpec : Vm.Spec := fun args h Q => ∃ V : VId, args = [.sl 2 []] ∧ isView h V noF ∧ memV h V noF ∧ ∀ (R : RId) (h' : Heap), BothW h' V R noF noF → Q (.ptr R.iv 0) h'
theorem does_rNewW : Does Tryz.prog 23 rNewWSpec := does_rNew.imp (by
 rintro args h Q ⟨V, rfl, hV, ⟨mem, clk, m1, m2⟩, hq⟩
 refine ⟨rfl, hq (rNewId h) _ ⟨both_rnew hV, ⟨mem, clk, heap_get _ m1, m2⟩, ⟨[], ?_, TabIs.new, by simp, by simp⟩⟩⟩
 unfold rNewH rNewId
 rw [zLb (by simp)]; simp)
def begunWSpec : Vm.Spec := fun args h Q => ∃ l : List Nd, l.length ≤ 1048576 ∧ (∀ n ∈ l, n.ok) ∧ args = [.sl 12 (l.map ndAv)] ∧ ∀ (V : VId) (R : RId) (h' : Heap), BothW h' V R (begunF l) noF → Q (.tup [.ptr V.iv 0, .ptr R.iv 0]) h'
structure Dop where
 year : Int
 frm : Int
 lines : List Ln
def dopAv (k : Dop) : AV := .agg [.v (.int .i64 k.year), .v (.int .i64 k.frm), .sl 4 (k.lines.map lnAv)]
def Dop.ok (k : Dop) : Prop := I64 k.year ∧ I64 k.frm ∧ ∀ x ∈ k.lines, x.ok
def fewWSpec : Vm.Spec := fun args h Q => ∃ (ns : List Nd) (l : List Dop), l.length ≤ 9223372036854775807 ∧ args = [.sl 12 (ns.map ndAv), .sl 3 (l.map dopAv)] ∧ ∀ b : Bool, (b = true → ns.length ≤ 20 ∧ l.length ≤ 20 ∧ ∀ k ∈ l, k.lines.length ≤ 20) → Q (.v (.bool b)) h
theorem turnF_n {e : Int} {f g : Fun} {b : Nat} (h1 : f.n ≤ b) (h2 : g.n ≤ b) : (turnF e f g).n ≤ b := by unfold turnF; split <;> assumption
theorem isA_lnk {y : AV} (h : IsA (.agg [.int .i64, .int .i64, .int .i64, .int .i64]) y) : ∃ x : Ln, x.ok ∧ y = lnAv x := by
 simp only [IsA, IsAll] at h
 obtain ⟨ys, ⟨y1, r1, rfl, h1, y2, r2, rfl, h2, y3, r3, rfl, h3, y4, r4, rfl, h4, rfl⟩, rfl⟩ := h
 obtain ⟨a1, k1, rfl⟩ := isA_int (by simpa only [IsA] using h1)
 obtain ⟨a2, k2, rfl⟩ := isA_int (by simpa only [IsA] using h2)
 obtain ⟨a3, k3, rfl⟩ := isA_int (by simpa only [IsA] using h3)
 obtain ⟨a4, k4, rfl⟩ := isA_int (by simpa only [IsA] using h4)
 exact ⟨⟨a1, a2, a3, a4⟩, ⟨k1, k2, k3, k4⟩, rfl⟩
theorem isA_dop {y : AV} (h : IsA (.agg [.int .i64, .int .i64, .sl (.agg [.int .i64, .int .i64, .int .i64, .int .i64])]) y) : ∃ k : Dop, k.ok ∧ y = dopAv k := by
 simp only [IsA, IsAll] at h
 obtain ⟨ys, ⟨y1, r1, rfl, h1, y2, r2, rfl, h2, y3, r3, rfl, h3, rfl⟩, rfl⟩ := h
 obtain ⟨a1, k1, rfl⟩ := isA_int (by simpa only [IsA] using h1)
 obtain ⟨a2, k2, rfl⟩ := isA_int (by simpa only [IsA] using h2)
 obtain ⟨ll, -, rfl, hll⟩ := isA_list _ lnAv (fun y hy => isA_lnk hy) (by simpa only [IsA, IsAll] using h3)
 exact ⟨⟨a1, a2, ll⟩, ⟨k1, k2, hll⟩, rfl⟩
def isRefX (h : Heap) (R : RId) (f g t : Fun) : Prop :=
 ∃ lw ln lt : List KV, h[R.iv]? = some (.cells [.ptr R.iw 0, .ptr R.inn 0, .ptr R.it 0]) ∧ h[R.iw]? = some (tabObj lw) ∧ h[R.inn]? = some (tabObj ln) ∧ h[R.it]? = some (tabObj lt) ∧
   (R.iv ≠ R.inn ∧ R.iv ≠ R.it ∧ R.inn ≠ R.it ∧ R.iw ≠ R.inn ∧ R.iw ≠ R.it) ∧ (TabIs f ln ∧ TabIs g lw ∧ TabIs t lt) ∧ (ln.length ≤ f.n ∧ lw.length ≤ g.n ∧ lt.length ≤ t.n ∧ t.n ≤ f.n) ∧
   ∀ p : KV, p ∈ ln ∨ p ∈ lw ∨ p ∈ lt → p.1.length ≤ 32 ∧ p.2.length ≤ 120
theorem isRefX.ref {h : Heap} {R : RId} {f g t : Fun} (hR : isRefX h R f g t) : isRef h R f := by
 obtain ⟨lw, ln, lt, h1, h2, h3, h4, h5, h6, h7, h8⟩ := hR
 exact ⟨lw, ln, lt, h1, h2, h3, h4, h5, h6.1, ⟨h7.1, by omega⟩, fun p hp => h8 p (.inl hp)⟩
theorem isRefX.same {h h' : Heap} {R : RId} {f g t : Fun} {fp : List Nat} (hR : isRefX h R f g t) (hs : Same h h' fp) (hd : ∀ i ∈ [R.iv, R.iw, R.inn, R.it], i ∉ fp) : isRefX h' R f g t := by
 obtain ⟨lw, ln, lt, h1, h2, h3, h4, h5⟩ := hR
 exact ⟨lw, ln, lt, hs.get h1 (hd _ (by simp)), hs.get h2 (hd _ (by simp)), hs.get h3 (hd _ (by simp)), hs.get h4 (hd _ (by simp)), h5⟩
def tdel (k : List UInt8) (l : List KV) : List KV := l.filter fun p => !(p.1 == k)
theorem TabIs.del {f : Fun} {l : List KV} (h : TabIs f l) (k : List UInt8) : TabIs (upd f k none) (tdel k l) := by
 refine ⟨h.1.sublist List.filter_sublist, fun k' v' => ?_⟩
 unfold tdel
 rw [List.mem_filter, h.2, upd_app]
 by_cases hk : k' = k
 · simp [hk]
 · simp [hk]
theorem tdel_len {f : Fun} {l : List KV} (h : TabIs f l) (k : List UInt8) : decide (((tdel k l).length : Int) < l.length) = (f k).isSome := by
 cases hf : f k with
 | some v =>
   refine decide_eq_true ?_
   have : (tdel k l).length < l.length := by
     unfold tdel
     rw [List.length_filter_lt_length_iff_exists]
     exact ⟨(k, v), (h.2 k v).2 hf, by simp⟩
   omega
 | none =>
   refine decide_eq_false ?_
   have : tdel k l = l := by
     unfold tdel
     rw [List.filter_eq_self]
     intro p hp
     have : ¬ p.1 = k := fun e => by
       have := (h.2 p.1 p.2).1 hp
       rw [e, hf] at this; cases this
     simpa using this
   rw [this]; omega
def BothX (h : Heap) (V : VId) (R : RId) (f g t : Fun) : Prop :=
 isView h V f ∧ memV h V g ∧ isRefX h R f g t ∧ (∀ i ∈ [V.iv, V.ic, V.im], i ∉ [R.iv, R.iw, R.inn, R.it]) ∧ ∀ k, f k ≠ g k → t k ≠ none
theorem BothX.view {h h' : Heap} {V : VId} {R : RId} {f g t : Fun} (hB : BothX h V R f g t) (hs : Same h h' [V.ic]) : isRefX h' R f g t :=
 hB.2.2.1.same hs fun i hi hm => by
   rw [List.mem_singleton] at hm; subst hm
   exact hB.2.2.2.1 V.ic (by simp) hi
theorem BothX.step {h h' h2 : Heap} {V : VId} {R : RId} {f f' g t t' : Fun} (hB : BothX h V R f g t) (hV : isView h' V f') (hs : Same h h' [V.ic]) (hR : isRefX h2 R f' g t') (hs2 : Same h' h2 (rFoot R)) (ht : ∀ k, f' k ≠ g k → t' k ≠ none) : BothX h2 V R f' g t' := by
 obtain ⟨b1, b2, b3, b4, b5⟩ := hB
 have hd : ∀ i ∈ [V.iv, V.ic, V.im], i ∉ rFoot R := fun i hi hm => b4 i hi (by simp [rFoot] at hm ⊢; rcases hm with rfl | rfl <;> simp)
 refine ⟨hV.same hs2 hd, (b2.same hs ?_).same hs2 (hd _ (by simp)), hR, b4, ht⟩
 have := b1.ne.2.2
 simp [Ne.symm this]
theorem BothX.quiet {h h' : Heap} {V : VId} {R : RId} {f g t : Fun} (hB : BothX h V R f g t) (hV : isView h' V f) (hs : Same h h' []) : BothX h' V R f g t :=
 ⟨hV, hB.2.1.same hs (by simp), hB.2.2.1.same hs (by simp), hB.2.2.2⟩
def tDelSpec : Vm.Spec := fun args h Q => ∃ (i : Nat) (l : List KV) (k : List UInt8), args = [.ptr i 0, .sl 1 (k.map encB)] ∧ h[i]? = some (tabObj l) ∧ l.length ≤ 1073741824 ∧
 Q (.v (.bool (decide (((tdel k l).length : Int) < l.length)))) (h.set i (tabObj (tdel k l)))
theorem does_tDel : Does Tryz.prog 274 tDelSpec := by
 refine dA good_nil Tryz.func274 rfl (by decide +kernel) ?_
 rintro args h Q ⟨id, l, k, rfl, hh, hl, hq⟩
 refine ⟨by simp [Tryz.f274], ?_⟩
 unfold tabObj at hh hq
 simp -dsimp only [Vm.G, zA, zB, zC, zD, zE, zF, q274.1]
 refine awp_loop (fun m s h' => ∃ i : Nat, i + m = l.length ∧ h' = h ∧ s = mk [(0, .ptr id 0), (1, .sl 1 (k.map encB)), (5, .own true 124 2 ((tdel k (l.take (i))).map kvAv)), (6, .v (.int .i64 (i : Nat)))])
   l.length _ (le_mk _ ?_) ⟨0, by omega, rfl, rfl⟩ ?_
 · simp only [Vm.D]
   try simp -dsimp only [Vm.G, zA, zB, zC, zD, zE, zF, q274.1]
   repeat' first | exact .refl _ | exact .nil _ _ _ (by decide) | refine ⟨?_, ?_⟩
 · rintro m s h' ⟨i, hi, rfl, rfl⟩
   simp -dsimp only [Vm.G, zA, zB, zC, zD, zE, zF, q274.1, hh]
   refine cond_intro (fun hcc => ?_) (fun hcc => ?_)
   · have hlt : i < l.length := by have := of_decide_eq_true hcc; omega
     have hw := hwN i (by omega)
     obtain ⟨p, hp⟩ : ∃ p, l[i] = p := ⟨_, rfl⟩
     have hlen : (tdel k (l.take i)).length ≤ i := Nat.le_trans (List.length_filter_le ..) (by rw [zUa]; omega)
     have est : tdel k (l.take (i + 1)) = tdel k (l.take i) ++ if (p.1 == k) = true then [] else [p] := by
       rw [zPa hlt, tdel, List.filter_append, hp, List.filter_cons, List.filter_nil]
       cases (p.1 == k) <;> rfl
     simp -dsimp only [Vm.G, zA, zB, zC, zD, zE, zF, q274.1]
     refine draw_cont [] (.take 0 (.take 1 (.take 2 (.take 4 (.take 9 (.take 10 (.alt 3 (.take 5 (.take 6 (.take 7 (.take 8 (.take 11 (.done)))))) .stop))))))) (fun s h2 => h2 = h' ∧ s 28 = .v (.bool (!(p.1 == k))) ∧ s 0 = .ptr id 0 ∧ s 1 = .sl 1 (k.map encB) ∧ s 5 = .own true 124 2 ((tdel k (l.take i)).map kvAv) ∧ s 6 = .v (.int .i64 i)) (by kernel_rfl) (by kernel_rfl) (by kernel_rfl) (by decide) ?_ ?_
     · repeat' first
         | with_reducible exact True.intro
         | refine strOf_sl bt107 k rfl ?_
         | refine strOf_sl bt107 p.1 rfl ?_
         | (refine idx_map kvAv l i hlt ?_; simp only [hp, kvAv])
         | simp -dsimp only [Vm.G, zA, zB, zC, zD, zE, zF, q274.1, hh, AV.cells, str_neq, toList_mk]
         | refine tree_alt ?_ ?_
         | repeat' first | rfl | exact True.intro | refine And.intro ?_ ?_
     · rintro s h2 ⟨rfl, e28, e0, e1, e5, e6⟩
       have hd := zIa (p.1 == k)
       rcases hd with c | c
       · rw [c] at e28 est
         simp only [if_true, List.append_nil] at est
         simp -dsimp only [Vm.G, zA, zB, zC, zD, zE, zF, q274.1, e28, e0, e1, e5, e6, Bool.not_true]
         refine kept_intro ⟨l.length - (i + 1), by omega, _, le_mk [(0, .ptr id 0), (1, .sl 1 (k.map encB)), (5, .own true 124 2 ((tdel k (l.take (i + 1))).map kvAv)), (6, .v (.int .i64 (i + 1 : Nat)))] ?_, i + 1, by omega, rfl, rfl⟩
         simp only [Vm.D, hw, e0, e1, e5, e6, est]
         try simp -dsimp only [Vm.G, zA, zB, zC, zD, zE, zF, q274.1, hw, e0, e1, e5, e6, est]
         repeat' first | exact .refl _ | exact .nil _ _ _ (by decide) | refine ⟨?_, ?_⟩
       · rw [c] at e28 est
         simp only [Bool.false_eq_true, if_false] at est
         simp -dsimp only [Vm.G, zA, zB, zC, zD, zE, zF, q274.1, e28, e0, e1, e5, e6, Bool.not_false, hh]
         refine idx_map kvAv l i hlt ?_
         simp only [hp, kvAv]
         simp -dsimp only [Vm.G, zA, zB, zC, zD, zE, zF, q274.1, e0, e1, e5, e6, AV.cells]
         refine bs_intro zr124 (by decide) (by decide) rfl rfl (by simp [solid, AV.cells]) ?_
         simp -dsimp only [Vm.G, zA, zB, zC, zD, zE, zF, q274.1, e0, e1, e5, e6]
         refine app_sl Tryz.underlying76 (by simp [AV.cells]) (by simp only [zKa, zNa, zOa]; omega) ?_
         simp -dsimp only [Vm.G, zA, zB, zC, zD, zE, zF, q274.1, e0, e1, e5, e6]
         refine kept_intro ⟨l.length - (i + 1), by omega, _, le_mk [(0, .ptr id 0), (1, .sl 1 (k.map encB)), (5, .own true 124 2 ((tdel k (l.take (i + 1))).map kvAv)), (6, .v (.int .i64 (i + 1 : Nat)))] ?_, i + 1, by omega, rfl, rfl⟩
         simp only [Vm.D, hw, e0, e1, e5, e6, est, zJa, zLa, zMa, kvAv]
         try simp -dsimp only [Vm.G, zA, zB, zC, zD, zE, zF, q274.1, hw, e0, e1, e5, e6, est, zJa, zLa, zMa, kvAv]
         repeat' first | exact .refl _ | exact .nil _ _ _ (by decide) | refine ⟨?_, ?_⟩
   · have hge : ¬ i < l.length := by have := of_decide_eq_false hcc; omega
     rw [zSa (by omega)]
     simp -dsimp only [Vm.G, zA, zB, zC, zD, zE, zF, q274.1, hh]
     exact hq
theorem funds_nil : IsFunds [] [] := ⟨.nil, fun x => by simp⟩
theorem IsFunds.at {p r : List Ln} (h : IsFunds p r) (k : Nat) (hk : k < r.length) : r[k] = ⟨r[k].fund, 0, 0, sumF p r[k].fund⟩ ∧ ∃ y ∈ p, y.fund = r[k].fund :=
 ⟨((h.2 _).1 (zKb hk)).2, ((h.2 _).1 (zKb hk)).1⟩
theorem IsFunds.lt {p r : List Ln} (h : IsFunds p r) {i j : Nat} (hij : i < j) (hj : j < r.length) : (r[i]'(by omega)).fund < r[j].fund := List.pairwise_iff_getElem.1 h.1 i j (by omega) hj hij
theorem has_more {p : List Ln} {x : Ln} {n : Int} (d : n ≠ x.fund) : (∃ y ∈ p ++ [x], y.fund = n) ↔ ∃ y ∈ p, y.fund = n := ⟨fun ⟨y, hy, e⟩ => by
 rcases List.mem_append.1 hy with hy | hy
 · exact ⟨y, hy, e⟩
 · rw [List.mem_singleton] at hy; subst hy; exact (d e.symm).elim, fun ⟨y, hy, e⟩ => ⟨y, by simp [hy], e⟩⟩
theorem IsFunds.insert {p r : List Ln} (h : IsFunds p r) (x : Ln) (hx : I64 x.amt) (j : Nat) (hj : j ≤ r.length) (hb : ∀ k (hk : k < r.length), k < j → r[k].fund < x.fund) (ha : ∀ hk : j < r.length, x.fund < r[j].fund) :
   IsFunds (p ++ [x]) (r.take j ++ ⟨x.fund, 0, 0, x.amt⟩ :: r.drop j) := by
 have hno : ∀ z ∈ r, z.fund ≠ x.fund := fun z hz e => by
   obtain ⟨k, hk, rfl⟩ := zOb hz
   by_cases hkj : k < j
   · have := hb k hk hkj; omega
   · have h1 := ha (by omega)
     by_cases hkj2 : k = j
     · subst hkj2; omega
     · have := h.lt (i := j) (j := k) (by omega) hk; omega
 have hnx : ¬ ∃ y ∈ p, y.fund = x.fund := fun hc => hno _ ((h.2 ⟨x.fund, 0, 0, sumF p x.fund⟩).2 ⟨hc, rfl⟩) rfl
 refine ⟨?_, fun z => ?_⟩
 · have hs : (r.take j ++ r.drop j).Pairwise (fun a b => a.fund < b.fund) := by rw [List.take_append_drop]; exact h.1
   rw [List.pairwise_append] at hs
   rw [List.pairwise_append, List.pairwise_cons]
   have hd : ∀ b ∈ r.drop j, x.fund < b.fund := fun b hb' => by
     obtain ⟨k, hk, rfl⟩ := zOb hb'
     rw [List.length_drop] at hk
     rw [List.getElem_drop]
     have h1 := ha (by omega)
     by_cases hk0 : k = 0
     · subst hk0; exact h1
     · have := h.lt (i := j) (j := j + k) (by omega) (by omega); omega
   refine ⟨hs.1, ⟨hd, hs.2.1⟩, fun a ha' b hb' => ?_⟩
   rcases List.mem_cons.1 hb' with rfl | hb'
   · obtain ⟨k, hk, rfl⟩ := zOb ha'
     rw [zUa] at hk
     rw [List.getElem_take]
     exact hb k (by omega) (by omega)
   · exact hs.2.2 a ha' b hb'
 · have hm : z ∈ r.take j ++ ⟨x.fund, 0, 0, x.amt⟩ :: r.drop j ↔ z = ⟨x.fund, 0, 0, x.amt⟩ ∨ z ∈ r := by
     have : z ∈ r ↔ z ∈ r.take j ∨ z ∈ r.drop j := by rw [← List.mem_append, List.take_append_drop]
     rw [this, List.mem_append, List.mem_cons]
     constructor
     · rintro (h | h | h)
       · exact .inr (.inl h)
       · exact .inl h
       · exact .inr (.inr h)
     · rintro (h | h | h)
       · exact .inr (.inl h)
       · exact .inl h
       · exact .inr (.inr h)
   rw [hm, sumF_step]
   by_cases d : z.fund = x.fund
   · rw [if_pos d]
     have e0 : w64 (sumF p z.fund + x.amt) = x.amt := by
       rw [d, sumF_none hnx, Int.zero_add]
       unfold I64 at hx
       exact wrap_i64 (by omega) (by omega)
     rw [e0]
     constructor
     · rintro (h1 | h1)
       · subst h1; exact ⟨⟨x, by simp, rfl⟩, rfl⟩
       · exact (hno z h1 d).elim
     · rintro ⟨-, h1⟩
       left; rw [h1, d]
   · rw [if_neg d, has_more d, ← h.2 z]
     exact ⟨fun h1 => h1.resolve_left fun e => d (by rw [e]), .inr⟩
theorem IsFunds.more {p r : List Ln} (h : IsFunds p r) (x : Ln) (j : Nat) (hj : j < r.length) (hx : r[j].fund = x.fund) :
   IsFunds (p ++ [x]) (r.set j ⟨r[j].fund, r[j].obj, r[j].node, w64 (r[j].amt + x.amt)⟩) := by
 obtain ⟨h1, h2⟩ := h.at j hj
 have e1 : r[j].obj = 0 := by rw [h1]
 have e2 : r[j].node = 0 := by rw [h1]
 have e3 : r[j].amt = sumF p x.fund := by rw [h1, ← hx]
 rw [e1, e2, e3, hx]
 have hmap : ∀ y : Ln, y.fund = x.fund → (r.set j y).map Ln.fund = r.map Ln.fund := fun y hy => by
   rw [List.map_set, hy, ← hx]
   apply List.ext_getElem (by simp)
   intro k k1 k2
   rw [List.getElem_set]
   split
   · subst_vars; rw [List.getElem_map]
   · rfl
 refine ⟨?_, fun z => ?_⟩
 · have := List.pairwise_map.2 h.1
   rw [← hmap ⟨x.fund, 0, 0, w64 (sumF p x.fund + x.amt)⟩ rfl] at this
   exact List.pairwise_map.1 this
 · rw [sumF_step]
   by_cases d : z.fund = x.fund
   · rw [if_pos d]
     constructor
     · intro hz
       obtain ⟨k, hk, rfl⟩ := zOb hz
       rw [zTb] at hk
       by_cases hkj : j = k
       · subst hkj
         rw [List.getElem_set_self]
         exact ⟨⟨x, by simp, rfl⟩, rfl⟩
       · rw [List.getElem_set_ne hkj] at d
         rcases Nat.lt_or_ge k j with h' | h'
         · have := h.lt h' hj; omega
         · have := h.lt (i := j) (j := k) (by omega) hk; omega
     · rintro ⟨-, hz⟩
       rw [hz, d]
       exact List.mem_set hj _
   · rw [if_neg d, has_more d, ← h.2 z]
     constructor
     · intro hz
       rcases List.mem_or_eq_of_mem_set hz with h' | h'
       · exact h'
       · exact (d (by rw [h'])).elim
     · intro hz
       obtain ⟨k, hk, rfl⟩ := zOb hz
       have hne : j ≠ k := fun e => by subst e; exact d hx
       have : (r.set j ⟨x.fund, 0, 0, w64 (sumF p x.fund + x.amt)⟩)[k]'(by rw [zTb]; exact hk) = r[k] := List.getElem_set_ne hne _
       rw [← this]; exact zKb _
def rFundsSpec : Vm.Spec := fun args h Q => ∃ l : List Ln, l.length ≤ 1073741824 ∧ (∀ x ∈ l, x.ok) ∧ args = [.sl 4 (l.map lnAv)] ∧ ∀ r, IsFunds l r → Q (.own true 45 4 (r.map lnAv)) h
def fLess (r : List Ln) (j : Nat) (n : Int) : Bool := (r[j]?.map fun p => decide (p.fund < n)).getD false
def fSame (r : List Ln) (j : Nat) (n : Int) : Bool := (r[j]?.map fun p => p.fund == n).getD false
theorem fLess_true {r : List Ln} {j : Nat} {n : Int} (h : fLess r j n = true) : ∃ hj : j < r.length, r[j].fund < n := by
 unfold fLess at h
 by_cases hi : j < r.length
 · rw [zRa hi] at h; exact ⟨hi, by simpa using h⟩
 · rw [zJb (by omega)] at h; cases h
theorem fSame_true {r : List Ln} {j : Nat} {n : Int} (h : fSame r j n = true) : ∃ hj : j < r.length, r[j].fund = n := by
 unfold fSame at h
 by_cases hi : j < r.length
 · rw [zRa hi] at h; exact ⟨hi, by simpa using h⟩
 · rw [zJb (by omega)] at h; cases h
theorem f_above {r : List Ln} {j : Nat} {n : Int} (h1 : fLess r j n = false) (h2 : fSame r j n = false) : ∀ hk : j < r.length, n < r[j].fund := fun hk => by
 unfold fLess at h1; unfold fSame at h2
 rw [zRa hk] at h1 h2
 have h1 : ¬ r[j].fund < n := by simpa using h1
 have h2 : ¬ r[j].fund = n := by simpa using h2
 omega
theorem does_rFunds : Does Tryz.prog 212 rFundsSpec := by
 refine dA good_nil Tryz.func212 rfl (by decide +kernel) ?_
 rintro args h Q ⟨l, hl, hok, rfl, hq⟩
 refine ⟨by simp [Tryz.f212], ?_⟩
 simp -dsimp only [Vm.G, zA, zB, zC, zD, zE, zF, q212.1]
 refine awp_loop (fun m s h' => ∃ (i : Nat) (r : List Ln), i + m = l.length ∧ IsFunds (l.take i) r ∧ h' = h ∧ s = mk [(0, .sl 4 (l.map lnAv)), (3, .own true 45 4 ((r).map lnAv)), (4, .v (.int .i64 (i : Nat)))])
   l.length _ (le_mk _ ?_) ⟨0, [], by omega, funds_nil, rfl, rfl⟩ ?_
 · simp only [Vm.D]
   try simp -dsimp only [Vm.G, zA, zB, zC, zD, zE, zF, q212.1]
   repeat' first | exact .refl _ | exact .nil _ _ _ (by decide) | refine ⟨?_, ?_⟩
 · rintro m s h' ⟨i, r, hi, hF, rfl, rfl⟩
   simp -dsimp only [Vm.G, zA, zB, zC, zD, zE, zF, q212.1]
   refine cond_intro (fun hcc => ?_) (fun hcc => ?_)
   · have hlt : i < l.length := by have := of_decide_eq_true hcc; omega
     have hw := hwN i (by omega)
     have hrl := hF.len
     rw [zUa] at hrl
     have hxe : ∃ x, l[i] = x := ⟨_, rfl⟩
     rcases hxe with ⟨x, hx⟩
     have hxo : I64 x.amt := (hok x (hx ▸ zKb hlt)).2.2.2
     have hget : (l.map lnAv)[i]? = some (lnAv x) := by simp [hlt, hx]
     have htk : l.take (i + 1) = l.take i ++ [x] := by rw [zPa hlt, hx]
     simp -dsimp only [Vm.G, zA, zB, zC, zD, zE, zF, q212.1]
     refine awp_loop (fun m s h2 => ∃ j : Nat, j + m = r.length ∧ h2 = h' ∧ (∀ k (hk : k < r.length), k < j → r[k].fund < x.fund) ∧ s = mk [(0, .sl 4 (l.map lnAv)), (3, .own true 45 4 (r.map lnAv)), (4, .v (.int .i64 i)), (5, .v (.int .i64 (j : Nat)))])
       r.length _ (le_mk _ ?_) ⟨0, by omega, rfl, fun _ _ hk => by omega, rfl⟩ ?_
     · simp only [Vm.D]
       try simp -dsimp only [Vm.G, zA, zB, zC, zD, zE, zF, q212.1]
       repeat' first | exact .refl _ | exact .nil _ _ _ (by decide) | refine ⟨?_, ?_⟩
     · clear hcc
       rintro m s h2 ⟨j, hj, rfl, hb, rfl⟩
       have hwj : j < r.length → IntKind.i64.wrap ((j : Int) + 1) = ((j + 1 : Nat) : Int) := fun hlt => by rw [wrap_i64 (by omega) (by omega)]; simp
       simp -dsimp only [Vm.G, zA, zB, zC, zD, zE, zF, q212.1]
       refine draw_cont [] (.take 0 (.take 1 (.take 2 (.take 3 (.take 4 (.take 5 (.take 6 (.take 7 (.take 8 (.take 10 (.take 11 (.take 12 (.take 13 (.alt 9 (.alt 14 (.take 15 (.take 16 (.done))) .stop) (.alt 14 (.alt 9 (.take 15 (.take 16 (.done))) .stop) (.stop)))))))))))))))) (fun s hx => hx = h2 ∧ s 28 = .v (.bool (fLess r j x.fund)) ∧ s 0 = .sl 4 (l.map lnAv) ∧ s 3 = .own true 45 4 (r.map lnAv) ∧ s 4 = .v (.int .i64 i) ∧ s 5 = .v (.int .i64 j)) (by kernel_rfl) (by kernel_rfl) (by kernel_rfl) (by decide) ?_ ?_
       · by_cases hjr : j < r.length
         · have c1 : decide ((j : Int) < r.length) = true := decide_eq_true (by omega)
           have hpe : ∃ p, r[j] = p := ⟨_, rfl⟩; rcases hpe with ⟨p, hp⟩
           have hgp : (r.map lnAv)[j]? = some (lnAv p) := by simp [hjr, hp]
           have hv : fLess r j x.fund = decide (p.fund < x.fund) := by unfold fLess; rw [zRa hjr, hp]; rfl
           simp only [hv]
           repeat' first
             | with_reducible exact True.intro
             | refine eltA_intro hgp ?_
             | refine eltA_intro hget ?_
             | (refine idx_map lnAv l i hlt ?_; simp only [hx, lnAv, lnCells])
             | refine idxO_intro (by omega) (by simp; omega) ?_
             | simp -dsimp only [Vm.G, zA, zB, zC, zD, zE, zF, q212.1, c1, lnAv, lnCells, AV.cells, zVa, zXa, zKa]
             | refine tree_alt ?_ ?_
         · have c1 : decide ((j : Int) < r.length) = false := decide_eq_false (by omega)
           have hv : fLess r j x.fund = false := by unfold fLess; rw [zJb (by omega)]; rfl
           simp only [hv]
           repeat' first
             | with_reducible exact True.intro
             | simp -dsimp only [Vm.G, zA, zB, zC, zD, zE, zF, q212.1, c1, zKa]
             | refine tree_alt ?_ ?_
       · rintro s h3 ⟨rfl, e28, e0, e3, e4, e5⟩
         have hdl' := (zIa (fLess r j x.fund)).symm
         rcases hdl' with hb2 | hb2
         · rw [hb2] at e28
           simp -dsimp only [Vm.G, zA, zB, zC, zD, zE, zF, q212.1, e28, e0, e3, e4, e5]
           refine draw_cont [] (.take 0 (.take 1 (.take 2 (.take 3 (.take 4 (.take 5 (.take 6 (.take 7 (.take 8 (.take 10 (.take 11 (.take 12 (.take 13 (.alt 9 (.alt 14 (.take 15 (.take 16 (.done))) .stop) (.alt 14 (.alt 9 (.take 15 (.take 16 (.done))) .stop) (.stop)))))))))))))))) (fun s hx => hx = h3 ∧ s 47 = .v (.bool (fSame r j x.fund)) ∧ s 0 = .sl 4 (l.map lnAv) ∧ s 3 = .own true 45 4 (r.map lnAv) ∧ s 4 = .v (.int .i64 i) ∧ s 5 = .v (.int .i64 j)) (by kernel_rfl) (by kernel_rfl) (by kernel_rfl) (by decide) ?_ ?_
           · by_cases hjr : j < r.length
             · have c1 : decide ((j : Int) < r.length) = true := decide_eq_true (by omega)
               have hpe : ∃ p, r[j] = p := ⟨_, rfl⟩; rcases hpe with ⟨p, hp⟩
               have hgp : (r.map lnAv)[j]? = some (lnAv p) := by simp [hjr, hp]
               have hv : fSame r j x.fund = (p.fund == x.fund) := by unfold fSame; rw [zRa hjr, hp]; rfl
               simp only [hv]
               repeat' first
                 | with_reducible exact True.intro
                 | refine eltA_intro hgp ?_
                 | refine eltA_intro hget ?_
                 | (refine idx_map lnAv l i hlt ?_; simp only [hx, lnAv, lnCells])
                 | refine idxO_intro (by omega) (by simp; omega) ?_
                 | simp -dsimp only [Vm.G, zA, zB, zC, zD, zE, zF, q212.1, e28, e0, e3, e4, e5, c1, lnAv, lnCells, AV.cells, zVa, zXa, zKa]
                 | refine tree_alt ?_ ?_
             · have c1 : decide ((j : Int) < r.length) = false := decide_eq_false (by omega)
               have hv : fSame r j x.fund = false := by unfold fSame; rw [zJb (by omega)]; rfl
               simp only [hv]
               repeat' first
                 | with_reducible exact True.intro
                 | simp -dsimp only [Vm.G, zA, zB, zC, zD, zE, zF, q212.1, e28, e0, e3, e4, e5, c1, zKa]
                 | refine tree_alt ?_ ?_
           · rintro s3 h4 ⟨rfl, f47, f0, f3, f4, f5⟩
             clear e28 e0 e3 e4 e5
             have hds := (zIa (fSame r j x.fund)).symm
             rcases hds with hb4 | hb4
             · rw [hb4] at f47
               have hF2 := hF.insert x hxo j (by omega) hb (f_above hb2 hb4)
               rw [← htk] at hF2
               simp -dsimp only [Vm.G, zA, zB, zC, zD, zE, zF, q212.1, f47, f0, f3, f4, f5]
               refine draw_cont [3] (.take 0 (.take 1 (.take 2 (.take 4 (.take 5 (.take 6 (.take 7 (.take 8 (.take 9 (.take 10 (.take 11 (.take 12 (.take 13 (.take 17 (.take 18 (.take 19 (.alt 3 (.alt 14 (.alt 15 (.alt 16 (.alt 20 (.alt 21 (.done) .stop) .stop) .stop) .stop) .stop) (.alt 14 (.alt 3 (.alt 15 (.alt 16 (.alt 20 (.alt 21 (.done) .stop) .stop) .stop) .stop) (.alt 15 (.alt 3 (.alt 16 (.alt 20 (.alt 21 (.done) .stop) .stop) .stop) .stop) (.stop))) (.stop))))))))))))))))))) (fun s hx => hx = h4 ∧ s 0 = .sl 4 (l.map lnAv) ∧ s 3 = .own true 45 4 ((r.take j ++ ⟨x.fund, 0, 0, x.amt⟩ :: r.drop j).map lnAv) ∧ s 4 = .v (.int .i64 i)) (by kernel_rfl) (by kernel_rfl) (by kernel_rfl) (by decide) ?_ ?_
               · have hjl : j ≤ r.length := by omega
                 have e1 : (r.map lnAv).take (j : Int).toNat = (r.take j).map lnAv := by rw [zXa, List.map_take]
                 have e2 : (r.map lnAv).drop (j : Int).toNat = (r.drop j).map lnAv := by rw [zXa, List.map_drop]
                 have hu : ∀ (l : List Ln), ∀ c ∈ l.map lnAv, c.cells.length = 4 := fun l c hc => by obtain ⟨y, -, rfl⟩ := zPb.1 hc; rfl
                 have hfin : (r.take j).map lnAv ++ [AV.agg [.v (.int .i64 x.fund), .v (.int .i64 0), .v (.int .i64 0), .v (.int .i64 x.amt)]] ++ (r.drop j).map lnAv = (r.take j ++ ⟨x.fund, 0, 0, x.amt⟩ :: r.drop j).map lnAv := by simp [lnAv, lnCells]
                 clear hq hb hF2 hF hok
                 repeat' first
                   | with_reducible exact True.intro
                   | refine slice_h es33 (by omega) (by rw [zKa]; omega) ?_
                   | refine slice_l es33 (by omega) (by rw [zKa]; omega) ?_
                   | refine bs_intro zr45 (by decide) (by decide) rfl rfl (by simp [solid, AV.cells]) ?_
                   | refine app_sl Tryz.underlying33 (hu _) (by simp only [zKa, zOa, zQa, zNa, zUa, List.length_drop]; omega) ?_
                   | refine app_sl Tryz.underlying33 (by simp [AV.cells]) (by simp only [zKa, zOa, zQa, zNa, zUa, List.length_drop]; omega) ?_
                   | (refine idx_map lnAv l i hlt ?_; simp only [hx, lnAv, lnCells])
                   | simp -dsimp only [Vm.G, zA, zB, zC, zD, zE, zF, q212.1, f47, f0, f3, f4, f5, e1, e2, hfin, List.nil_append, AV.cells, zVa, append_nil ei33, append_own ei33]
                   | refine tree_alt ?_ ?_
               · rintro s4 h5 ⟨rfl, g0, g3, g4⟩
                 simp -dsimp only [Vm.G, zA, zB, zC, zD, zE, zF, q212.1, g0, g3, g4]
                 refine kept_intro ⟨l.length - (i + 1), by omega, _, le_mk [(0, .sl 4 (l.map lnAv)), (3, .own true 45 4 ((r.take j ++ ⟨x.fund, 0, 0, x.amt⟩ :: r.drop j).map lnAv)), (4, .v (.int .i64 (i + 1 : Nat)))] ?_, i + 1, _, by omega, hF2, rfl, rfl⟩
                 simp only [Vm.D, hw, g0, g3, g4]
                 try simp -dsimp only [Vm.G, zA, zB, zC, zD, zE, zF, q212.1, hw, g0, g3, g4]
                 repeat' first | exact .refl _ | exact .nil _ _ _ (by decide) | refine ⟨?_, ?_⟩
             · rw [hb4] at f47
               have hst := fSame_true hb4
               rcases hst with ⟨hjr, hje⟩
               have hF2 := hF.more x j hjr hje
               rw [← htk] at hF2
               have hpe : ∃ p, r[j] = p := ⟨_, rfl⟩; rcases hpe with ⟨p, hp⟩
               have hgp : (r.map lnAv)[j]? = some (lnAv p) := by simp [hjr, hp]
               rw [hp] at hF2
               simp -dsimp only [Vm.G, zA, zB, zC, zD, zE, zF, q212.1, f47, f0, f3, f4, f5]
               refine draw_cont [] (.take 0 (.take 1 (.take 2 (.take 3 (.take 4 (.take 5 (.take 7 (.take 8 (.take 9 (.take 10 (.take 11 (.alt 6 (.take 12 (.take 13 (.take 14 (.alt 15 (.done) .stop)))) .stop)))))))))))) (fun s hx => hx = h4 ∧ s 0 = .sl 4 (l.map lnAv) ∧ s 3 = .own true 45 4 ((r.set j ⟨p.fund, p.obj, p.node, w64 (p.amt + x.amt)⟩).map lnAv) ∧ s 4 = .v (.int .i64 i)) (by kernel_rfl) (by kernel_rfl) (by kernel_rfl) (by decide) ?_ ?_
               · have hre : (r.map lnAv).set j (.agg [.v (.int .i64 p.fund), .v (.int .i64 p.obj), .v (.int .i64 p.node), .v (.int .i64 (w64 (p.amt + x.amt)))]) = (r.set j ⟨p.fund, p.obj, p.node, w64 (p.amt + x.amt)⟩).map lnAv := by rw [List.map_set]; rfl
                 clear hq hb hF2 hF hok
                 repeat' first
                   | with_reducible exact True.intro
                   | refine eltA_intro hgp ?_
                   | (refine idx_map lnAv l i hlt ?_; simp only [hx, lnAv, lnCells])
                   | refine idxO_intro (by omega) (by simp; omega) ?_
                   | (refine store_elt 45 (r.map lnAv) (by simp -dsimp only [Vm.E, zA, zB, zC, zD, zE, zG, zH, f3]) (y := lnAv p) hgp rfl rfl (by omega) rfl ?_
                      simp only [lnAv, lnCells, AV.cells, putCells, reCell, List.take_zero, List.nil_append, zNa, zOa, Nat.zero_add, Nat.reduceAdd, List.drop_succ_cons, zVa, List.append_nil, List.drop_nil])
                   | simp -dsimp only [Vm.G, zA, zB, zC, zD, zE, zF, q212.1, f47, f0, f3, f4, f5, hre, lnAv, lnCells, AV.cells, zVa, List.drop_succ_cons, zXa, zKa]
                   | refine tree_alt ?_ ?_
               · rintro s4 h5 ⟨rfl, g0, g3, g4⟩
                 simp -dsimp only [Vm.G, zA, zB, zC, zD, zE, zF, q212.1, g0, g3, g4]
                 refine kept_intro ⟨l.length - (i + 1), by omega, _, le_mk [(0, .sl 4 (l.map lnAv)), (3, .own true 45 4 ((r.set j ⟨p.fund, p.obj, p.node, w64 (p.amt + x.amt)⟩).map lnAv)), (4, .v (.int .i64 (i + 1 : Nat)))] ?_, i + 1, _, by omega, hF2, rfl, rfl⟩
                 simp only [Vm.D, hw, g0, g3, g4]
                 try simp -dsimp only [Vm.G, zA, zB, zC, zD, zE, zF, q212.1, hw, g0, g3, g4]
                 repeat' first | exact .refl _ | exact .nil _ _ _ (by decide) | refine ⟨?_, ?_⟩
         · rw [hb2] at e28
           have hst := fLess_true hb2
           rcases hst with ⟨hjr, hjl⟩
           simp -dsimp only [Vm.G, zA, zB, zC, zD, zE, zF, q212.1, e28, e0, e3, e4, e5]
           refine kept_intro ⟨r.length - (j + 1), by omega, _, le_mk [(0, .sl 4 (l.map lnAv)), (3, .own true 45 4 (r.map lnAv)), (4, .v (.int .i64 i)), (5, .v (.int .i64 (j + 1 : Nat)))] ?_, j + 1, by omega, rfl, fun k hk hk2 => ?_, rfl⟩
           · simp only [Vm.D, hwj hjr, e0, e3, e4, e5]
             try simp -dsimp only [Vm.G, zA, zB, zC, zD, zE, zF, q212.1, hwj hjr, e0, e3, e4, e5]
             repeat' first | exact .refl _ | exact .nil _ _ _ (by decide) | refine ⟨?_, ?_⟩
           · by_cases hkj : k = j
             · subst hkj; exact hjl
             · exact hb k hk (by omega)
   · have hge : ¬ i < l.length := by have := of_decide_eq_false hcc; omega
     rw [zSa (by omega)] at hF
     simp -dsimp only [Vm.G, zA, zB, zC, zD, zE, zF, q212.1]
     exact hq r hF
end Go.Proofs.Lx
