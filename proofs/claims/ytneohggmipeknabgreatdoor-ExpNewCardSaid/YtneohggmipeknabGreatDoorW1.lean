/- What the functions of the program do: their contracts. -/
import Derived.Test.YtneohggmipeknabGreatDoorV2
import Derived.Test.YtneohggmipeknabGreatDoorTFs
import Derived.Test.YtneohggmipeknabGreatDoorW0
import Derived.Test.YtneohggmipeknabGreatDoorShelfLn
open List renaming lookup → zA, length_map → zIa, length_cons → zJa, length_nil → zMa, getElem?_eq_getElem → zOa, getElem?_eq_none → zPa, getElem?_append_right → zRa, getElem?_set_ne → zSa, take_of_length_le → zTa, not_mem_nil → zUa, mem_map → zVa, mem_cons → zXa, finRange → zYa, length_append → zIb, mem_singleton → zJb, length_take → zKb, mem_cons_self → zLb, mem_cons_of_mem → zMb, nil_append → zNb, getElem_mem → zOb, append_nil → zPb, map_append → zRb, map_nil → zSb
open Nat renaming reduceAdd → zB, reduceBEq → zC, reduceLeDiff → zF, le_refl → zNa, le_add_right → zQa, lt_or_ge → zQb
open Int renaming reduceBNe → zD, reduceBEq → zE, toNat_natCast → zWa
open Bool renaming true_beq → zG, false_beq → zH, eq_false_or_eq_true → zKa
open Option renaming bind_some → zLa
set_option maxRecDepth 20000
set_option maxHeartbeats 16000000
set_option linter.unusedSimpArgs false
set_option linter.unusedVariables false
namespace Go.Proofs.Lx
open Go.Vm
attribute [local irreducible] awpArr awpBin awpMake awpAppend awpCvX awpStrOf awpBinX awpSlice awpBS awpStore awpAlloc awpCopy awpIndex awpDraw awpIdxX awpFa awpField awpLookup awpUpdate awpDelete awpClear awpRange awpNext awpEntry awpBuild awpClearS awpIdxL awpTree appB
def rRightSpec : Vm.Spec := fun args h Q => ∃ k v : List UInt8, args = [.sl 1 (k.map encB), .sl 1 (v.map encB)] ∧ Q (.v (.bool (rightKV k v))) h
theorem does_rRight : Does Tryz.prog 120 rRightSpec := by
 refine dA good_nil Tryz.func120 rfl (by decide +kernel) ?_
 rintro args h Q ⟨k, v, rfl, hq⟩
 refine ⟨by simp [Tryz.f120], ?_⟩
 simp -dsimp only [Vm.E, zA, zB, zC, zD, zE, zG, zH, Tryz.underlying107]
 by_cases d1 : 1 ≤ k.length
 · have c1 : decide ((k.length : Int) ≥ 1) = true := decide_eq_true (by omega)
   simp -dsimp only [Vm.E, zA, zB, zC, zD, zE, zG, zH, c1, Tryz.underlying107]
   by_cases d2 : k.length ≤ 32
   · have c2 : decide ((k.length : Int) ≤ 32) = true := decide_eq_true (by omega)
     simp -dsimp only [Vm.E, zA, zB, zC, zD, zE, zG, zH, c2, Tryz.underlying107, Tryz.results120]
     have : rightKV k v = decide ((v.length : Int) ≤ 120) := by
       unfold rightKV
       have e1 : ¬ k.length < 1 := by omega
       have e2 : ¬ 32 < k.length := by omega
       by_cases e : v.length ≤ 120
       · have : ¬ 120 < v.length := by omega
         have e3 : ((v.length : Int) ≤ 120) := by omega
         have e4 : ¬ ((120 : Int) < v.length) := by omega
         have e5 : ¬ ((32 : Int) < k.length) := by omega
         have e6 : ¬ ((k.length : Int) < 1) := by omega
         simp [e3, e4, e5, e6]
       · have e3 : ¬ ((v.length : Int) ≤ 120) := by omega
         have e4 : ((120 : Int) < v.length) := by omega
         simp [e3, e4]
     rw [← this]; exact hq
   · have c2 : decide ((k.length : Int) ≤ 32) = false := decide_eq_false (by omega)
     simp -dsimp only [Vm.E, zA, zB, zC, zD, zE, zG, zH, c2, Tryz.underlying107, Tryz.results120]
     have : rightKV k v = false := by unfold rightKV; simp; omega
     rw [this] at hq; exact hq
 · have c1 : decide ((k.length : Int) ≥ 1) = false := decide_eq_false (by omega)
   simp -dsimp only [Vm.E, zA, zB, zC, zD, zE, zG, zH, c1, Tryz.underlying107, Tryz.results120]
   have : rightKV k v = false := by unfold rightKV; simp; omega
   rw [this] at hq; exact hq
def tabObj (l : List KV) : AObj := .cells [.sl 2 (l.map kvAv)]
def tGetSpec : Vm.Spec := fun args h Q => ∃ (i : Nat) (l : List KV) (k : List UInt8), args = [.ptr i 0, .sl 1 (k.map encB)] ∧ h[i]? = some (tabObj l) ∧ l.length ≤ 1073741824 ∧ (∀ p ∈ l, p.2.length ≤ 1073741824) ∧
 (∀ v, tfind k l = some v → Q (.tup [.sl 1 (v.map encB), .v (.bool true)]) h) ∧ (tfind k l = none → Q (.tup [.v (.slice none 0 0), .v (.bool false)]) h)
theorem tfind_at {k : List UInt8} {l : List KV} {i : Nat} (hi : i < l.length) (hb : ∀ j (hj : j < i), (l[j]'(by omega)).1 ≠ k) (he : l[i].1 = k) : tfind k l = some l[i].2 := by
 unfold tfind
 have : l.find? (fun p => p.1 == k) = some l[i] := by
   rw [List.find?_eq_some_iff_getElem]
   exact ⟨by simpa using he, i, hi, rfl, fun j hj => by simpa using hb j hj⟩
 rw [this]; rfl
theorem tfind_no {k : List UInt8} {l : List KV} (hb : ∀ j (hj : j < l.length), l[j].1 ≠ k) : tfind k l = none := by
 unfold tfind
 rw [List.find?_eq_none.2 fun p hp => ?_]; rfl
 obtain ⟨j, hj, rfl⟩ := List.getElem_of_mem hp
 simpa using hb j hj
theorem does_tGet : Does Tryz.prog 167 tGetSpec := by
 refine does_of_awp good_nil Tryz.func167 rfl (by decide +kernel) (by decide +kernel) ?_
 rintro args h Q ⟨id, l, k, rfl, hh, hl, hvl, hq1, hq2⟩
 unfold tabObj at hh
 refine ⟨by simp [Tryz.f167], ?_⟩
 rw [awpFunc_some (by rfl)]
 simp -dsimp only [Vm.E, zA, zB, zC, zD, zE, zG, zH]
 refine awp_loop (fun m s h' => ∃ i : Nat, i + m = l.length ∧ h' = h ∧ (∀ j (hj : j < l.length), j < i → l[j].1 ≠ k) ∧ s = mk [(0, .ptr id 0), (1, .sl 1 (k.map encB)), (6, .v (.int .i64 i))])
   l.length _ (le_mk _ ?_) ⟨0, by omega, rfl, fun j _ hj => by omega, rfl⟩ ?_
 · simp only [Vm.D]
   simp -dsimp only [Vm.E, zA, zB, zC, zD, zE, zG, zH]
   exact ⟨.refl _, .refl _, .refl _⟩
 · rintro m s h' ⟨i, hi, rfl, hb, rfl⟩
   simp -dsimp only [Vm.E, zA, zB, zC, zD, zE, zG, zH, fo114_0, hh, of76, Tryz.underlying76]
   refine cond_intro (fun hcc => ?_) (fun hcc => ?_)
   · have hlt : i < l.length := by have := of_decide_eq_true hcc; omega
     have hw := hwN i (by omega)
     obtain ⟨p, hp⟩ : ∃ p, l[i] = p := ⟨_, rfl⟩
     have hvp : p.2.length ≤ 1073741824 := hvl p (hp ▸ zOb hlt)
     have hf1 : p.1 = k → tfind k l = some p.2 := fun e => by rw [← hp]; exact tfind_at hlt (fun j hj => hb j _ hj) (by rw [hp]; exact e)
     simp -dsimp only [Vm.E, zA, zB, zC, zD, zE, zG, zH]
     refine draw_cont [] (.take 0 (.take 1 (.take 2 (.take 4 (.take 9 (.take 10 (.alt 3 (.take 5 (.take 6 (.take 7 (.take 8 (.take 11 (.done)))))) .stop))))))) (fun s h2 => h2 = h' ∧ s 27 = .v (.bool (p.1 == k)) ∧ s 0 = .ptr id 0 ∧ s 1 = .sl 1 (k.map encB) ∧ s 6 = .v (.int .i64 i)) (by kernel_rfl) (by kernel_rfl) (by kernel_rfl) (by decide) ?_ ?_
     · simp -dsimp only [Vm.G, zA, zB, zC, zD, zE, zF, fo114_0, hh, of76, es76, as76, Tryz.underlying107, cs107]
       refine strOf_sl bt107 k rfl ?_
       simp -dsimp only [Vm.G, zA, zB, zC, zD, zE, zF, fo114_0, hh, of76, es76, as76, Tryz.underlying107, cs107, fo124_0, fo124_1, of107, AV.cells, Tryz.underlying76]
       refine idx_map kvAv l i hlt ?_
       simp only [hp, kvAv]
       simp -dsimp only [Vm.G, zA, zB, zC, zD, zE, zF, fo114_0, hh, of76, es76, as76, Tryz.underlying107, cs107, fo124_0, fo124_1, of107, AV.cells, Tryz.underlying76]
       refine strOf_sl bt107 p.1 rfl ?_
       simp -dsimp only [Vm.G, zA, zB, zC, zD, zE, zF, fo114_0, hh, of76, es76, as76, Tryz.underlying107, cs107, fo124_0, fo124_1, of107, AV.cells, Tryz.underlying76]
       simp -dsimp only [Vm.E, zA, zB, zC, zD, zE, zG, zH, str_eql, toList_mk]
     · rintro s h2 ⟨rfl, e27, e0, e1, e6⟩
       cases c1 : (p.1 == k)
       · rw [c1] at e27
         simp -dsimp only [Vm.E, zA, zB, zC, zD, zE, zG, zH, e27, e6, hw]
         refine kept_intro ⟨l.length - (i + 1), by omega, _, le_mk [(0, .ptr id 0), (1, .sl 1 (k.map encB)), (6, .v (.int .i64 (i + 1 : Nat)))] ?_, i + 1, by omega, rfl, fun j hj hj2 => ?_, rfl⟩
         · simp only [Vm.D]
           simp -dsimp only [Vm.E, zA, zB, zC, zD, zE, zG, zH, e0, e1]
           exact ⟨.refl _, .refl _, .refl _⟩
         · by_cases hji : j = i
           · subst hji; rw [hp]; simpa using c1
           · exact hb j hj (by omega)
       · rw [c1] at e27
         have hf := hq1 _ (hf1 (by simpa using c1))
         simp -dsimp only [Vm.E, zA, zB, zC, zD, zE, zG, zH, e27, e6, e0, e1, Vm.S, Nat.reduceLeDiff, fo114_0, hh, of76, es76, as76, Tryz.underlying107, cs107, fo124_0, fo124_1, of107, AV.cells, Tryz.underlying76]
         refine idx_map kvAv l i hlt ?_
         simp only [hp, kvAv]
         simp -dsimp only [Vm.E, zA, zB, zC, zD, zE, zG, zH, e27, e6, e0, e1, Vm.S, Nat.reduceLeDiff, fo114_0, hh, of76, es76, as76, Tryz.underlying107, cs107, fo124_0, fo124_1, of107, AV.cells, Tryz.underlying76]
         simp -dsimp only [Vm.E, zA, zB, zC, zD, zE, zG, zH, e27, e6, e0, e1, append_nil ei107]
         refine app_sl Tryz.underlying107 (fun c hc => by obtain ⟨y, -, rfl⟩ := zVa.1 hc; rfl) (by simp only [zIa, zMa]; omega) ?_
         simp -dsimp only [Vm.E, zA, zB, zC, zD, zE, zG, zH, e27, e6, e0, e1, Tryz.results167]
         exact hf
   · have hge : ¬ i < l.length := by have := of_decide_eq_false hcc; omega
     simp -dsimp only [Vm.E, zA, zB, zC, zD, zE, zG, zH, Tryz.results167]
     exact hq2 (tfind_no fun j hj => hb j hj (by omega))
theorem str_lss {t : TypeId} {a b : ByteArray} {KV : Value → Prop} : awpBin Tryz.prog .lss t (.v (.string a)) (.v (.string b)) KV = KV (.bool (Op.bytesLess a.toList b.toList)) := by simp [awpBin]
def lessAt (l : List KV) (i : Nat) (k : List UInt8) : Bool := (l[i]?.map fun p => decide (kLt p.1 k)).getD false
def sameAt (l : List KV) (i : Nat) (k : List UInt8) : Bool := (l[i]?.map fun p => p.1 == k).getD false
theorem lessAt_true {l : List KV} {i : Nat} {k : List UInt8} (h : lessAt l i k = true) : ∃ hi : i < l.length, kLt l[i].1 k := by
 unfold lessAt at h
 by_cases hi : i < l.length
 · rw [zOa hi] at h; exact ⟨hi, by simpa using h⟩
 · rw [zPa (by omega)] at h; cases h
theorem sameAt_true {l : List KV} {i : Nat} {k : List UInt8} (h : sameAt l i k = true) : ∃ hi : i < l.length, l[i].1 = k := by
 unfold sameAt at h
 by_cases hi : i < l.length
 · rw [zOa hi] at h; exact ⟨hi, by simpa using h⟩
 · rw [zPa (by omega)] at h; cases h
theorem tput_at {k v : List UInt8} {l : List KV} {i : Nat} (hi : i ≤ l.length) (hb : ∀ j (hj : j < l.length), j < i → kLt l[j].1 k) (h1 : lessAt l i k = false) (h2 : sameAt l i k = false) : tput k v l = l.take i ++ (k, v) :: l.drop i := by
 refine tput_ins k v l i hi (fun j hj => hb j _ hj) fun h => ?_
 unfold lessAt at h1; unfold sameAt at h2
 rw [zOa h] at h1 h2
 exact ⟨by simpa using h1, by simpa using h2⟩
def tPutSpec : Vm.Spec := fun args h Q => ∃ (i : Nat) (l : List KV) (k v : List UInt8), args = [.ptr i 0, .sl 1 (k.map encB), .sl 1 (v.map encB)] ∧ h[i]? = some (tabObj l) ∧ l.length ≤ 1073741824 ∧ k.length ≤ 1073741824 ∧ v.length ≤ 1073741824 ∧
 Q (.tup []) (h.set i (tabObj (tput k v l)))
theorem does_tPut : Does Tryz.prog 121 tPutSpec := by
 refine does_of_awp good_nil Tryz.func121 rfl (by decide +kernel) (by decide +kernel) ?_
 rintro args h Q ⟨id, l, k, v, rfl, hh, hl, hkl, hvl, hq⟩
 unfold tabObj at hh hq
 refine ⟨by simp [Tryz.f121], ?_⟩
 rw [awpFunc_some (by rfl)]
 simp -dsimp only [Vm.E, zA, zB, zC, zD, zE, zG, zH, append_nil ei107]
 refine app_sl Tryz.underlying107 (fun c hc => by obtain ⟨y, -, rfl⟩ := zVa.1 hc; rfl) (by simp only [zIa, zMa]; omega) ?_
 simp -dsimp only [Vm.E, zA, zB, zC, zD, zE, zG, zH, append_nil ei107]
 refine app_sl Tryz.underlying107 (fun c hc => by obtain ⟨y, -, rfl⟩ := zVa.1 hc; rfl) (by simp only [zIa, zMa]; omega) ?_
 simp -dsimp only [Vm.G, zA, zB, zC, zD, zE, zF, zNb, bd124, al124, sz124]
 refine awp_loop (fun m s h' => ∃ i : Nat, i + m = l.length ∧ h' = h ∧ (∀ j (hj : j < l.length), j < i → kLt l[j].1 k) ∧ s = mk [(0, .ptr id 0), (1, .sl 1 (k.map encB)), (6, .box [.sl 1 (k.map encB), .sl 1 (v.map encB)]), (7, .v (.int .i64 i))])
   l.length _ (le_mk _ ?_) ⟨0, by omega, rfl, fun j _ hj => by omega, rfl⟩ ?_
 · simp only [Vm.D]
   simp -dsimp only [Vm.E, zA, zB, zC, zD, zE, zG, zH]
   exact ⟨.refl _, .refl _, .refl _, .refl _⟩
 · rintro m s h' ⟨i, hi, rfl, hb, rfl⟩
   simp -dsimp only [Vm.E, zA, zB, zC, zD, zE, zG, zH]
   have hw : i < l.length → IntKind.i64.wrap ((i : Int) + 1) = ((i + 1 : Nat) : Int) := fun hlt => by rw [wrap_i64 (by omega) (by omega)]; simp
   refine draw_cont [] (.take 0 (.take 1 (.take 2 (.take 3 (.alt 4 (.take 5 (.take 6 (.take 7 (.take 8 (.take 9 (.take 10 (.take 12 (.take 17 (.alt 11 (.take 13 (.take 14 (.alt 15 (.alt 16 (.alt 18 (.take 19 (.take 20 (.done))) .stop) (.alt 18 (.alt 16 (.take 19 (.take 20 (.done))) .stop) (.stop))) (.alt 18 (.alt 15 (.alt 16 (.take 19 (.take 20 (.done))) .stop) .stop) (.stop))))) (.alt 18 (.alt 11 (.take 13 (.take 14 (.alt 15 (.alt 16 (.take 19 (.take 20 (.done))) .stop) .stop))) .stop) (.stop))))))))))) .stop))))) (fun s hx => hx = h' ∧ s 34 = .v (.bool (lessAt l i k)) ∧ s 0 = .ptr id 0 ∧ s 1 = .sl 1 (k.map encB) ∧ s 6 = .box [.sl 1 (k.map encB), .sl 1 (v.map encB)] ∧ s 7 = .v (.int .i64 i)) (by kernel_rfl) (by kernel_rfl) (by kernel_rfl) (by decide) ?_ ?_
   · by_cases hlt : i < l.length
     · have c1 : decide ((i : Int) < l.length) = true := decide_eq_true (by omega)
       obtain ⟨p, hp⟩ : ∃ p, l[i] = p := ⟨_, rfl⟩
       have hv : (lessAt l i k) = decide (kLt p.1 k) := by unfold lessAt; rw [zOa hlt, hp]; rfl
       simp only [hv]
       repeat' first
         | with_reducible exact True.intro
         | simp -dsimp only [Vm.G, zA, zB, zC, zD, zE, zF, fo114_0, hh, of76, es76, as76, Tryz.underlying107, cs107, fo124_0, fo124_1, of107, AV.cells, Tryz.underlying76, c1, str_eql, str_lss, toList_mk, bytesLess_cb]
         | refine strOf_sl bt107 k rfl ?_
         | refine strOf_sl bt107 p.1 rfl ?_
         | (refine idx_map kvAv l i hlt ?_; simp only [hp, kvAv])
         | refine tree_alt ?_ ?_
     · have c1 : decide ((i : Int) < l.length) = false := decide_eq_false (by omega)
       have hv : (lessAt l i k) = false := by unfold lessAt; rw [zPa (by omega)]; rfl
       simp only [hv]
       repeat' first
         | with_reducible exact True.intro
         | simp -dsimp only [Vm.G, zA, zB, zC, zD, zE, zF, fo114_0, hh, of76, es76, as76, Tryz.underlying107, cs107, fo124_0, fo124_1, of107, AV.cells, Tryz.underlying76, c1]
         | refine tree_alt ?_ ?_
   · rintro s h2 ⟨rfl, e34, e0, e1, e6, e7⟩
     cases hb2 : lessAt l i k
     · rw [hb2] at e34
       simp -dsimp only [Vm.E, zA, zB, zC, zD, zE, zG, zH, e34, e0, e1, e6, e7]
       refine draw_cont [] (.take 0 (.take 1 (.take 2 (.take 3 (.alt 4 (.take 5 (.take 6 (.take 7 (.take 8 (.take 9 (.take 10 (.take 12 (.take 17 (.alt 11 (.take 13 (.take 14 (.alt 15 (.alt 16 (.alt 18 (.take 19 (.take 20 (.done))) .stop) (.alt 18 (.alt 16 (.take 19 (.take 20 (.done))) .stop) (.stop))) (.alt 18 (.alt 15 (.alt 16 (.take 19 (.take 20 (.done))) .stop) .stop) (.stop))))) (.alt 18 (.alt 11 (.take 13 (.take 14 (.alt 15 (.alt 16 (.take 19 (.take 20 (.done))) .stop) .stop))) .stop) (.stop))))))))))) .stop))))) (fun s hx => hx = h2 ∧ s 57 = .v (.bool (sameAt l i k)) ∧ s 0 = .ptr id 0 ∧ s 1 = .sl 1 (k.map encB) ∧ s 6 = .box [.sl 1 (k.map encB), .sl 1 (v.map encB)] ∧ s 7 = .v (.int .i64 i)) (by kernel_rfl) (by kernel_rfl) (by kernel_rfl) (by decide) ?_ ?_
       · by_cases hlt : i < l.length
         · have c1 : decide ((i : Int) < l.length) = true := decide_eq_true (by omega)
           obtain ⟨p, hp⟩ : ∃ p, l[i] = p := ⟨_, rfl⟩
           have hv : (sameAt l i k) = (p.1 == k) := by unfold sameAt; rw [zOa hlt, hp]; rfl
           simp only [hv]
           repeat' first
             | with_reducible exact True.intro
             | simp -dsimp only [Vm.G, zA, zB, zC, zD, zE, zF, fo114_0, hh, of76, es76, as76, Tryz.underlying107, cs107, fo124_0, fo124_1, of107, AV.cells, Tryz.underlying76, c1, str_eql, str_lss, toList_mk, bytesLess_cb, e34, e0, e1, e6, e7]
             | refine strOf_sl bt107 k rfl ?_
             | refine strOf_sl bt107 p.1 rfl ?_
             | (refine idx_map kvAv l i hlt ?_; simp only [hp, kvAv])
             | refine tree_alt ?_ ?_
         · have c1 : decide ((i : Int) < l.length) = false := decide_eq_false (by omega)
           have hv : (sameAt l i k) = false := by unfold sameAt; rw [zPa (by omega)]; rfl
           simp only [hv]
           repeat' first
             | with_reducible exact True.intro
             | simp -dsimp only [Vm.G, zA, zB, zC, zD, zE, zF, fo114_0, hh, of76, es76, as76, Tryz.underlying107, cs107, fo124_0, fo124_1, of107, AV.cells, Tryz.underlying76, c1, e34, e0, e1, e6, e7]
             | refine tree_alt ?_ ?_
       · rintro s3 h3 ⟨rfl, e57, f0, f1, f6, f7⟩
         clear e34 e0 e1 e6 e7
         cases hb4 : sameAt l i k
         · rw [hb4] at e57
           simp -dsimp only [Vm.E, zA, zB, zC, zD, zE, zG, zH, e57, f0, f1, f6, f7]
           have hput := tput_at (k := k) (v := v) (by omega) hb hb2 hb4
           have hil : i ≤ l.length := by omega
           have e1 : (l.map kvAv).take (i : Int).toNat = (l.take i).map kvAv := by rw [zWa, List.map_take]
           have e2 : (l.map kvAv).drop (i : Int).toNat = (l.drop i).map kvAv := by rw [zWa, List.map_drop]
           have hu : ∀ (l : List KV), ∀ c ∈ l.map kvAv, c.cells.length = 2 := fun l c hc => by obtain ⟨y, -, rfl⟩ := zVa.1 hc; rfl
           have hfin : (l.take i).map kvAv ++ [AV.agg [.sl 1 (k.map encB), .sl 1 (v.map encB)]] ++ (l.drop i).map kvAv = (tput k v l).map kvAv := by rw [hput]; simp [kvAv]
           refine draw_cont [6] (.take 0 (.take 1 (.take 2 (.take 3 (.take 5 (.take 8 (.take 11 (.take 12 (.take 13 (.take 15 (.alt 4 (.take 6 (.alt 7 (.alt 9 (.alt 10 (.alt 14 (.take 16 (.alt 17 (.take 18 (.take 19 (.alt 20 (.done) .stop))) .stop)) .stop) (.alt 14 (.take 16 (.alt 10 (.alt 17 (.take 18 (.take 19 (.alt 20 (.done) .stop))) .stop) .stop)) (.stop))) (.alt 14 (.take 16 (.alt 9 (.alt 10 (.alt 17 (.take 18 (.take 19 (.alt 20 (.done) .stop))) .stop) .stop) .stop)) (.stop))) (.alt 9 (.alt 7 (.alt 10 (.alt 14 (.take 16 (.alt 17 (.take 18 (.take 19 (.alt 20 (.done) .stop))) .stop)) .stop) (.alt 14 (.take 16 (.alt 10 (.alt 17 (.take 18 (.take 19 (.alt 20 (.done) .stop))) .stop) .stop)) (.stop))) (.alt 14 (.take 16 (.alt 7 (.alt 10 (.alt 17 (.take 18 (.take 19 (.alt 20 (.done) .stop))) .stop) .stop) .stop)) (.stop))) (.alt 14 (.take 16 (.alt 7 (.alt 9 (.alt 10 (.alt 17 (.take 18 (.take 19 (.alt 20 (.done) .stop))) .stop) .stop) .stop) (.alt 9 (.alt 7 (.alt 10 (.alt 17 (.take 18 (.take 19 (.alt 20 (.done) .stop))) .stop) .stop) .stop) (.stop)))) (.stop))))) (.alt 9 (.alt 4 (.take 6 (.alt 7 (.alt 10 (.alt 14 (.take 16 (.alt 17 (.take 18 (.take 19 (.alt 20 (.done) .stop))) .stop)) .stop) (.alt 14 (.take 16 (.alt 10 (.alt 17 (.take 18 (.take 19 (.alt 20 (.done) .stop))) .stop) .stop)) (.stop))) (.alt 14 (.take 16 (.alt 7 (.alt 10 (.alt 17 (.take 18 (.take 19 (.alt 20 (.done) .stop))) .stop) .stop) .stop)) (.stop)))) (.alt 14 (.take 16 (.alt 4 (.take 6 (.alt 7 (.alt 10 (.alt 17 (.take 18 (.take 19 (.alt 20 (.done) .stop))) .stop) .stop) .stop)) .stop)) (.stop))) (.alt 14 (.take 16 (.alt 4 (.take 6 (.alt 7 (.alt 9 (.alt 10 (.alt 17 (.take 18 (.take 19 (.alt 20 (.done) .stop))) .stop) .stop) .stop) (.alt 9 (.alt 7 (.alt 10 (.alt 17 (.take 18 (.take 19 (.alt 20 (.done) .stop))) .stop) .stop) .stop) (.stop)))) (.alt 9 (.alt 4 (.take 6 (.alt 7 (.alt 10 (.alt 17 (.take 18 (.take 19 (.alt 20 (.done) .stop))) .stop) .stop) .stop)) .stop) (.stop)))) (.stop)))))))))))))) (fun s hx => hx = h3.set id (tabObj (tput k v l))) (by kernel_rfl) (by kernel_rfl) (by kernel_rfl) (by decide) ?_ ?_
           · clear hq hb hw
             repeat' first
               | with_reducible exact True.intro
               | simp -dsimp only [Vm.G, zA, zB, zC, zD, zE, zF, fo114_0, hh, of76, es76, as76, Tryz.underlying107, cs107, fo124_0, fo124_1, of107, AV.cells, Tryz.underlying76, f0, f1, f6, f7, e1, e2, zNb, of124, append_nil ei76, append_own ei76, hfin, tabObj, sz76]
               | refine tree_alt ?_ ?_
               | refine slice_h es76 (by omega) (by rw [zIa]; omega) ?_
               | refine slice_l es76 (by omega) (by rw [zIa]; omega) ?_
               | refine bs_intro zr124 (by decide) (by decide) rfl rfl (by simp [solid, AV.cells]) ?_
               | refine app_sl Tryz.underlying76 (hu _) (by simp only [zIa, zMa, zIb, zJa, zKb, List.length_drop]; omega) ?_
               | refine app_sl Tryz.underlying76 (by simp [AV.cells]) (by simp only [zIa, zMa, zIb, zJa, zKb, List.length_drop]; omega) ?_
           · rintro s4 h4 rfl
             simp -dsimp only [Vm.E, zA, zB, zC, zD, zE, zG, zH, Tryz.results121]
             exact hq
         · rw [hb4] at e57
           obtain ⟨hlt, heq⟩ := sameAt_true hb4
           have hset := tput_set k v l i hlt (fun j hj => hb j _ hj) heq
           simp -dsimp only [Vm.G, zA, zB, zC, zD, zE, zF, fo114_0, hh, of76, es76, as76, Tryz.underlying107, cs107, fo124_0, fo124_1, of107, AV.cells, Tryz.underlying76, e57, f0, f1, f6, f7, append_nil ei76]
           refine app_sl Tryz.underlying76 (fun c hc => by obtain ⟨y, -, rfl⟩ := zVa.1 hc; rfl) (by simp only [zIa, zMa]; omega) ?_
           simp -dsimp only [Vm.G, zA, zB, zC, zD, zE, zF, fo114_0, hh, of76, es76, as76, Tryz.underlying107, cs107, fo124_0, fo124_1, of107, AV.cells, Tryz.underlying76, e57, f0, f1, f6, f7, zNb, of124]
           refine idxO_intro (by omega) (by simp; omega) ?_
           simp -dsimp only [Vm.G, zA, zB, zC, zD, zE, zF, fo114_0, hh, of76, es76, as76, Tryz.underlying107, cs107, fo124_0, fo124_1, of107, AV.cells, Tryz.underlying76, e57, f0, f1, f6, f7, of124, sz124, zWa]
           have hre : (l.map kvAv).set i (.agg [.sl 1 (k.map encB), .sl 1 (v.map encB)]) = (tput k v l).map kvAv := by rw [hset, List.map_set]; rfl
           refine store_elt 124 (l.map kvAv) (by simp -dsimp only [Vm.E, zA, zB, zC, zD, zE, zG, zH]) (y := kvAv l[i]) (by rw [List.getElem?_map, zOa hlt]; rfl) rfl rfl (by omega) rfl ?_
           simp only [kvAv, AV.cells, putCells, reCell, List.take_zero, zNb, zJa, zMa, Nat.zero_add, Nat.reduceAdd, List.drop_succ_cons, List.drop_zero, zPb, List.drop_nil]
           simp -dsimp only [Vm.G, zA, zB, zC, zD, zE, zF, fo114_0, hh, of76, es76, as76, AV.cells, Tryz.underlying76, f0, f1, f6, f7, hre, sz76, Tryz.results121]
           exact hq
     · rw [hb2] at e34
       obtain ⟨hlt, hk⟩ := lessAt_true hb2
       simp -dsimp only [Vm.E, zA, zB, zC, zD, zE, zG, zH, e34, e0, e1, e6, e7]
       refine kept_intro ⟨l.length - (i + 1), by omega, _, le_mk [(0, .ptr id 0), (1, .sl 1 (k.map encB)), (6, .box [.sl 1 (k.map encB), .sl 1 (v.map encB)]), (7, .v (.int .i64 (i + 1 : Nat)))] ?_, i + 1, by omega, rfl, fun j hj hj2 => ?_, rfl⟩
       · simp only [Vm.D]
         simp -dsimp only [Vm.E, zA, zB, zC, zD, zE, zG, zH, e0, e1, e6, e7, hw hlt]
         exact ⟨.refl _, .refl _, .refl _, .refl _⟩
       · by_cases hji : j = i
         · subst hji; exact hk
         · exact hb j hj (by omega)
end Go.Proofs.Lx
namespace Go.Proofs.Lx
open Go.Vm
attribute [local irreducible] awpArr awpBin awpMake awpAppend awpCvX awpStrOf awpBinX awpSlice awpBS awpStore awpAlloc awpCopy awpIndex awpDraw awpIdxX awpFa awpField awpLookup awpUpdate awpDelete awpClear awpRange awpNext awpEntry awpBuild awpClearS awpIdxL
theorem does_rPack : Does Tryz.prog 115 packSpec := by
 refine dA (good_cons does_refPut good_nil) Tryz.func115 rfl (by decide +kernel) ?_
 rintro args h Q ⟨l, hl, hn, rfl, hq⟩
 refine ⟨by simp [Tryz.f115], ?_⟩
 simp -dsimp only [Vm.E, zA, zB, zC, zD, zE, zG, zH]
 refine awp_loop (fun m s h' => ∃ i : Nat, i + m = (l.take 15).length ∧ h' = h ∧ s = mk [(0, .sl 1 (l.map encI)), (3, .own true 5 1 ((packs 8 (l.take i)).map encB)), (4, .v (.int .i64 i))])
   (l.take 15).length _ (le_mk _ ?_) ⟨0, by omega, rfl, rfl⟩ ?_
 · simp only [Vm.D]
   simp -dsimp only [Vm.E, zA, zB, zC, zD, zE, zG, zH]
   exact ⟨.refl _, .nil _ _ _ (by decide), .refl _⟩
 · rintro m s h' ⟨i, hi, rfl, rfl⟩
   have hlen : (l.take 15).length = min 15 l.length := zKb ..
   simp -dsimp only [Vm.E, zA, zB, zC, zD, zE, zG, zH, Tryz.underlying162]
   by_cases a1 : i < l.length
   · have c1 : decide ((i : Int) < l.length) = true := decide_eq_true (by omega)
     simp -dsimp only [Vm.E, zA, zB, zC, zD, zE, zG, zH, c1]
     by_cases a2 : i < 15
     · have c2 : decide ((i : Int) < 15) = true := decide_eq_true (by omega)
       simp -dsimp only [Vm.E, zA, zB, zC, zD, zE, zG, zH, c2, es162, as162]
       refine idx_ints l i a1 ?_
       simp -dsimp only [Vm.E, zA, zB, zC, zD, zE, zG, zH, of3]
       have hb := packs_length 8 (l.take i)
       have hti : (l.take i).length ≤ i := by rw [zKb]; omega
       have hr := hn l[i] (zOb a1)
       have hw := hwN i (by omega)
       refine call_one (S := putSpec) rfl _ GaL.rfl ⟨packs 8 (l.take i), l[i], 8, by omega, hr.1, hr.2, rfl, ?_⟩
       simp only [putOf8, ← packs_take 8 l i a1]
       simp -dsimp only [Vm.E, zA, zB, zC, zD, zE, zG, zH]
       refine kept_intro ⟨(l.take 15).length - (i + 1), by omega, _, le_mk [(0, .sl 1 (l.map encI)), (3, .own true 5 1 ((packs 8 (l.take (i + 1))).map encB)), (4, .v (.int .i64 (i + 1 : Nat)))] ?_, i + 1, by omega, rfl, rfl⟩
       simp only [Vm.D]
       simp -dsimp only [Vm.E, zA, zB, zC, zD, zE, zG, zH, hw]
       exact ⟨.refl _, .refl _, .refl _⟩
     · have c2 : decide ((i : Int) < 15) = false := decide_eq_false (by omega)
       simp -dsimp only [Vm.E, zA, zB, zC, zD, zE, zG, zH, c2, Tryz.results115]
       have : i = 15 := by omega
       subst this
       exact hq
   · have c1 : decide ((i : Int) < l.length) = false := decide_eq_false (by omega)
     simp -dsimp only [Vm.E, zA, zB, zC, zD, zE, zG, zH, c1, Tryz.results115]
     unfold packOf at hq
     rw [zTa (by omega)] at hq
     rw [zTa (by omega)]
     exact hq
theorem does_rKey : Does Tryz.prog 104 keySpec := by
 refine dA (good_cons does_refPut good_nil) Tryz.func104 rfl (by decide +kernel) ?_
 rintro args h Q ⟨tag, l, hl, rfl, hq⟩
 refine ⟨by simp [Tryz.f104], ?_⟩
 simp -dsimp only [Vm.E, zA, zB, zC, zD, zE, zG, zH, es107]
 refine bs_intro zr5 (by decide) (by decide) rfl rfl (by simp [solid, AV.cells]) ?_
 simp -dsimp only [Vm.E, zA, zB, zC, zD, zE, zG, zH]
 refine awp_loop (fun m s h' => ∃ i : Nat, i + m = (l.take 7).length ∧ h' = h ∧ s = mk [(1, .sl 1 (l.map encI)), (5, .own true 5 1 ((tag :: packs 4 ((l.map clampK).take i)).map encB)), (6, .v (.int .i64 i))])
   (l.take 7).length _ (le_mk _ ?_) ⟨0, by omega, rfl, rfl⟩ ?_
 · simp only [Vm.D]
   simp -dsimp only [Vm.E, zA, zB, zC, zD, zE, zG, zH]
   exact ⟨.refl _, .refl _, .refl _⟩
 · rintro m s h' ⟨i, hi, rfl, rfl⟩
   have hlen : (l.take 7).length = min 7 l.length := zKb ..
   simp -dsimp only [Vm.E, zA, zB, zC, zD, zE, zG, zH, Tryz.underlying162]
   by_cases a1 : i < l.length
   · have c1 : decide ((i : Int) < l.length) = true := decide_eq_true (by omega)
     simp -dsimp only [Vm.E, zA, zB, zC, zD, zE, zG, zH, c1]
     by_cases a2 : i < 7
     · have c2 : decide ((i : Int) < 7) = true := decide_eq_true (by omega)
       simp -dsimp only [Vm.E, zA, zB, zC, zD, zE, zG, zH, c2, es162, as162]
       refine idx_ints l i a1 ?_
       simp -dsimp only [Vm.E, zA, zB, zC, zD, zE, zG, zH, of3]
       have hlt' : i < (l.map clampK).length := by simpa using a1
       have hb := packs_length 4 ((l.map clampK).take i)
       have hti : ((l.map clampK).take i).length ≤ i := by rw [zKb]; omega
       have hr := clampK_range l[i]
       have hget : (l.map clampK)[i] = clampK l[i] := by simp
       have hw := hwN i (by omega)
       refine call_one (S := putSpec) rfl _ GaL.rfl ⟨tag :: packs 4 ((l.map clampK).take i), clampK l[i], 4, by simp only [zJa]; omega, by omega, by omega, rfl, ?_⟩
       have hput : putOf (tag :: packs 4 ((l.map clampK).take i)) (clampK l[i]) 4 = tag :: packs 4 ((l.map clampK).take (i + 1)) := by
         rw [putOf4 _ _ hr.1 hr.2, List.cons_append, ← hget, ← packs_take 4 (l.map clampK) i hlt']
       simp only [hput]
       simp -dsimp only [Vm.E, zA, zB, zC, zD, zE, zG, zH]
       refine kept_intro ⟨(l.take 7).length - (i + 1), by omega, _, le_mk [(1, .sl 1 (l.map encI)), (5, .own true 5 1 ((tag :: packs 4 ((l.map clampK).take (i + 1))).map encB)), (6, .v (.int .i64 (i + 1 : Nat)))] ?_, i + 1, by omega, rfl, rfl⟩
       simp only [Vm.D]
       simp -dsimp only [Vm.E, zA, zB, zC, zD, zE, zG, zH, hw]
       exact ⟨.refl _, .refl _, .refl _⟩
     · have c2 : decide ((i : Int) < 7) = false := decide_eq_false (by omega)
       simp -dsimp only [Vm.E, zA, zB, zC, zD, zE, zG, zH, c2, Tryz.results104]
       have : i = 7 := by omega
       subst this
       unfold keyOf at hq
       rw [List.map_take] at hq
       exact hq
   · have c1 : decide ((i : Int) < l.length) = false := decide_eq_false (by omega)
     simp -dsimp only [Vm.E, zA, zB, zC, zD, zE, zG, zH, c1, Tryz.results104]
     unfold keyOf at hq
     rw [List.map_take, zTa (by simp; omega)] at hq
     rw [zTa (l := l.map clampK) (by simp; omega)]
     exact hq
theorem does_rUnpack : Does Tryz.prog 172 unpackSpec := by
 refine dA (good_cons does_refGet good_nil) Tryz.func172 rfl (by decide +kernel) ?_
 rintro args h Q ⟨b, many, hl, hm, rfl, hq⟩
 refine ⟨by simp [Tryz.f172], ?_⟩
 unfold unpackRes at hq
 simp -dsimp only [Vm.E, zA, zB, zC, zD, zE, zG, zH]
 cases h0 : decide (many < 0)
 · have h0' : ¬ many < 0 := of_decide_eq_false h0
   simp -dsimp only [Vm.E, zA, zB, zC, zD, zE, zG, zH]
   cases h1 : decide (many > 15)
   · have h1' : ¬ 15 < many := of_decide_eq_false h1
     rw [if_neg (by omega)] at hq
     have hw8 : IntKind.i64.wrap (8 * many) = 8 * many := wrap_i64 (by omega) (by omega)
     simp -dsimp only [Vm.E, zA, zB, zC, zD, zE, zG, zH, Tryz.underlying107, hw8]
     cases h2 : ((b.length : Int) != 8 * many)
     · have h2' : (b.length : Int) = 8 * many := by simpa using h2
       rw [if_neg (by omega)] at hq
       obtain ⟨k, rfl⟩ : ∃ k : Nat, many = k := ⟨many.toNat, by omega⟩
       rw [zWa] at hq
       have hk : k ≤ 15 := by omega
       simp -dsimp only [Vm.E, zA, zB, zC, zD, zE, zG, zH]
       refine awp_loop (fun m s h' => ∃ i : Nat, i + m = k ∧ h' = h ∧ s = mk [(0, .sl 1 (b.map encB)), (1, .v (.int .i64 k)), (6, .own true 3 1 ((numsOf b i).map encI)), (7, .v (.int .i64 i))])
         k _ (le_mk _ ?_) ⟨0, by omega, rfl, rfl⟩ ?_
       · simp only [Vm.D]
         simp -dsimp only [Vm.E, zA, zB, zC, zD, zE, zG, zH]
         exact ⟨.refl _, .refl _, .nil _ _ _ (by decide), .refl _⟩
       · rintro m s h' ⟨i, hi, rfl, rfl⟩
         simp -dsimp only [Vm.E, zA, zB, zC, zD, zE, zG, zH]
         refine cond_intro (fun hc => ?_) (fun hc => ?_)
         · have hlt : i < k := by have := of_decide_eq_true hc; omega
           have hwi : IntKind.i64.wrap (8 * (i : Int)) = ((8 * i : Nat) : Int) := by rw [wrap_i64 (by omega) (by omega)]; simp
           have hw := hwN i (by omega)
           simp -dsimp only [Vm.E, zA, zB, zC, zD, zE, zG, zH, hwi]
           refine call_one (S := getSpec) rfl _ GaL.rfl ⟨b, ((8 * i : Nat) : Int), 8, by omega, by omega, rfl, ?_⟩
           simp only [getRes8 b i (by omega)]
           simp -dsimp only [Vm.E, zA, zB, zC, zD, zE, zG, zH, es162]
           refine bs_intro zr3 (by decide) (by decide) rfl rfl (by simp [solid, AV.cells]) ?_
           simp -dsimp only [Vm.E, zA, zB, zC, zD, zE, zG, zH, append_own ei162]
           refine app_sl Tryz.underlying162 (by simp [AV.cells]) (by simp [numsOf]; omega) ?_
           simp -dsimp only [Vm.E, zA, zB, zC, zD, zE, zG, zH]
           have e3 : (numsOf b i).map encI ++ [AV.v (.int .i64 (num8 b i))] = (numsOf b (i + 1)).map encI := by simp [numsOf, List.range_succ, encI]
           refine kept_intro ⟨k - (i + 1), by omega, _, le_mk [(0, .sl 1 (b.map encB)), (1, .v (.int .i64 k)), (6, .own true 3 1 ((numsOf b (i + 1)).map encI)), (7, .v (.int .i64 (i + 1 : Nat)))] ?_, i + 1, by omega, rfl, rfl⟩
           simp only [Vm.D]
           simp -dsimp only [Vm.E, zA, zB, zC, zD, zE, zG, zH, hw, e3]
           exact ⟨.refl _, .refl _, .refl _, .refl _⟩
         · have hge : ¬ i < k := by have := of_decide_eq_false hc; omega
           simp -dsimp only [Vm.E, zA, zB, zC, zD, zE, zG, zH, Tryz.results172]
           obtain rfl : i = k := by omega
           exact hq
     · have h2' : ¬ (b.length : Int) = 8 * many := by simpa using h2
       rw [if_pos h2'] at hq
       simp -dsimp only [Vm.E, zA, zB, zC, zD, zE, zG, zH, Tryz.results172]
       exact hq
   · have h1' : 15 < many := of_decide_eq_true h1
     rw [if_pos (.inr h1')] at hq
     simp -dsimp only [Vm.E, zA, zB, zC, zD, zE, zG, zH, Tryz.results172]
     exact hq
 · have h0' : many < 0 := of_decide_eq_true h0
   rw [if_pos (.inl h0')] at hq
   simp -dsimp only [Vm.E, zA, zB, zC, zD, zE, zG, zH, Tryz.results172]
   exact hq
def GaO (x y : AObj) : Prop := x = y ∨ ∃ a b, x = .cells a ∧ y = .cells b ∧ GaL a b
def GaH (h h' : Heap) : Prop := h.length = h'.length ∧ ∀ (i : Nat) (o' : AObj), h'[i]? = some o' → ∃ o : AObj, h[i]? = some o ∧ GaO o o'
theorem GaH.rep {w : World} {g : Gh} {h h' : Heap} (hg : GaH h h') (hh : HeapRep w g h) : HeapRep w g h' := by
 refine ⟨hg.1 ▸ hh.n, hh.lt, hh.inj, fun i o' ho' => ?_⟩
 obtain ⟨o, ho, hgo⟩ := hg.2 i o' ho'
 have hr := hh.obj i o ho
 rcases hgo with rfl | ⟨a, b, rfl, rfl, hab⟩
 · exact hr
 · obtain ⟨vs, e, h1, h2, h3, h4, h5⟩ := hr
   obtain ⟨q1, q2⟩ := gaL_rep (w := w) (g := g) hab
   exact ⟨vs, e, h1, q1 ▸ h2, h3, fun j hj => h4 j (by omega), q2 (fun j => vs.getD j undef) h5⟩
def WeakH (S : Vm.Spec) : Vm.Spec := fun args h Q => ∃ h', GaH h h' ∧ S args h' fun r h2 => ∃ h3, GaH h2 h3 ∧ Q r h3
theorem does_weakH {P : Program} {f : FuncId} {S : Vm.Spec} (hd : Does P f S) : Does P f (WeakH S) := by
 refine ⟨hd.1, fun args h Q ⟨h', hg, hS⟩ w g vs hvs hrep hh hf hlaid => (hd.2 args h' _ hS w g vs hvs hrep (hg.rep hh) hf hlaid).mono ?_⟩
 rintro e w' ⟨r, h2, g', v, ⟨h3, hg3, hq⟩, he, hres, hhr, hrest⟩
 exact ⟨r, h3, g', v, hq, he, hres, hg3.rep hhr, hrest⟩
theorem GaH.refl (h : Heap) : GaH h h := ⟨rfl, fun i o ho => ⟨o, ho, .inl rfl⟩⟩
theorem GaH.append {h : Heap} {a b : List AObj} (hab : a.length = b.length) (hi : ∀ (i : Nat) (o' : AObj), b[i]? = some o' → ∃ o, a[i]? = some o ∧ GaO o o') : GaH (h ++ a) (h ++ b) := by
 refine ⟨by simp [hab], fun i o' ho' => ?_⟩
 rcases zQb i h.length with hl | hl
 · rw [List.getElem?_append_left hl] at ho' ⊢
   exact ⟨o', ho', .inl rfl⟩
 · rw [zRa hl] at ho' ⊢
   exact hi _ _ ho'
structure RId where
 iv : Nat
 iw : Nat
 inn : Nat
 it : Nat
def isRef (h : Heap) (R : RId) (f : Fun) : Prop :=
 ∃ lw ln lt : List KV, h[R.iv]? = some (.cells [.ptr R.iw 0, .ptr R.inn 0, .ptr R.it 0]) ∧ h[R.iw]? = some (tabObj lw) ∧ h[R.inn]? = some (tabObj ln) ∧ h[R.it]? = some (tabObj lt) ∧
   (R.iv ≠ R.inn ∧ R.iv ≠ R.it ∧ R.inn ≠ R.it ∧ R.iw ≠ R.inn ∧ R.iw ≠ R.it) ∧ TabIs f ln ∧ (ln.length ≤ f.n ∧ lt.length ≤ f.n) ∧ ∀ p ∈ ln, p.1.length ≤ 32 ∧ p.2.length ≤ 120
def rFoot (R : RId) : List Nat := [R.inn, R.it]
theorem isRef.len {h : Heap} {R : RId} {f : Fun} (hR : isRef h R f) {k l : List UInt8} (hf : f k = some l) : k.length ≤ 32 ∧ l.length ≤ 120 := by
 obtain ⟨lw, ln, lt, -, -, -, -, -, h6, -, h8⟩ := hR
 exact h8 (k, l) ((h6.2 k l).2 hf)
def rNewH (h : Heap) : Heap := h ++ [tabObj [], tabObj [], tabObj [], .cells [.ptr h.length 0, .ptr (h.length + 1) 0, .ptr (h.length + 2) 0]]
def rNewId (h : Heap) : RId := ⟨h.length + 3, h.length, h.length + 1, h.length + 2⟩
def rNewSpec : Vm.Spec := fun args h Q => args = [.sl 2 []] ∧ Q (.ptr (rNewId h).iv 0) (rNewH h)
theorem does_rNew0 : Does Tryz.prog 23 (fun args h Q => args = [.sl 2 []] ∧ Q (.ptr (h.length + 3) 0) (h ++ [tabObj [], tabObj [], .cells [.v (.slice none 0 0)], .cells [.ptr h.length 0, .ptr (h.length + 1) 0, .ptr (h.length + 2) 0]])) := by
 refine dA good_nil Tryz.func23 rfl (by decide +kernel) ?_
 rintro args h Q ⟨rfl, hq⟩
 refine ⟨by simp [Tryz.f23], ?_⟩
 unfold tabObj at hq
 simp -dsimp only [Vm.G, zA, zB, zC, zD, zE, zF, bd114, bd116, Tryz.results23]
 simpa using hq
theorem does_rNew : Does Tryz.prog 23 rNewSpec := by
 refine (does_weakH does_rNew0).imp ?_
 rintro args h Q ⟨rfl, hq⟩
 refine ⟨h, .refl h, rfl, rNewH h, ?_, hq⟩
 refine GaH.append rfl fun i o' ho' => ?_
 match i, ho' with
 | 0, ho' => exact ⟨o', ho', .inl rfl⟩
 | 1, ho' => exact ⟨o', ho', .inl rfl⟩
 | 2, ho' => exact ⟨_, rfl, .inr ⟨_, _, rfl, (Option.some.inj ho').symm, .cons (.nil 2) .nil⟩⟩
 | 3, ho' => exact ⟨o', ho', .inl rfl⟩
 | i + 4, ho' => simp at ho'
theorem isRef_new (h : Heap) : isRef (rNewH h) (rNewId h) noF := by
 unfold rNewH rNewId
 refine ⟨[], [], [], ?_, ?_, ?_, ?_, ⟨by simp, by simp, by simp, by simp, by simp⟩, TabIs.new, ⟨by simp, by simp⟩, by simp⟩
 · rw [zRa (by simp)]; simp
 · rw [zRa (by simp)]; simp
 · rw [zRa (by simp)]; simp
 · rw [zRa (by simp)]; simp
def rGetSpec : Vm.Spec := fun args h Q => ∃ (R : RId) (f : Fun) (k : List UInt8), args = [.ptr R.iv 0, .sl 1 (k.map encB)] ∧ isRef h R f ∧ f.n ≤ 536870912 ∧
 (∀ l, f k = some l → Q (.tup [.sl 1 (l.map encB), .v (.bool true)]) h) ∧ (f k = none → Q (.tup [.sl 1 [], .v (.bool false)]) h)
theorem does_rGet : Does Tryz.prog 105 rGetSpec := by
 refine Does.imp (S := Weak fun args h Q => ∃ (R : RId) (f : Fun) (k : List UInt8), args = [.ptr R.iv 0, .sl 1 (k.map encB)] ∧ isRef h R f ∧ f.n ≤ 536870912 ∧
   (∀ l, f k = some l → Q (.tup [.sl 1 (l.map encB), .v (.bool true)]) h) ∧ (f k = none → Q (.tup [.v (.slice none 0 0), .v (.bool false)]) h)) (Does.weak ?_) ?_
 · refine dA (good_cons does_tGet good_nil) Tryz.func105 rfl (by decide +kernel) ?_
   rintro args h Q ⟨R, f, k, rfl, hR, hn, hq1, hq2⟩
   refine ⟨by simp [Tryz.f105], ?_⟩
   obtain ⟨lw, ln, lt, h1, h2, h3, h4, h5, h6, h7, h8⟩ := hR
   simp -dsimp only [Vm.G, zA, zB, zC, zD, zE, zF, fo116_1, h1, of112]
   refine call_one (S := tGetSpec) rfl _ GaL.rfl ⟨R.inn, ln, k, rfl, h3, by omega, fun p hp => by have := (h8 p hp).2; omega, fun v hv => ?_, fun hv => ?_⟩
   · rw [h6.find] at hv
     simp -dsimp only [Vm.E, zA, zB, zC, zD, zE, zG, zH, Tryz.results105]
     exact hq1 v hv
   · rw [h6.find] at hv
     simp -dsimp only [Vm.E, zA, zB, zC, zD, zE, zG, zH, Tryz.results105]
     exact hq2 hv
 · rintro args h Q ⟨R, f, k, rfl, hR, hn, hq1, hq2⟩
   exact ⟨R, f, k, rfl, hR, hn, fun l hf => ⟨_, .refl _, hq1 l hf⟩, fun hf => ⟨_, .tup (.cons (.nil 1) GaL.rfl), hq2 hf⟩⟩
def rPutSpec : Vm.Spec := fun args h Q => ∃ (R : RId) (f : Fun) (k v : List UInt8), args = [.ptr R.iv 0, .sl 1 (k.map encB), .sl 1 (v.map encB)] ∧ isRef h R f ∧ f.n ≤ 536870912 ∧
 (rightKV k v = true → ∀ h', isRef h' R (upd f k (some v)) → Same h h' (rFoot R) → Q (.v (.int .i64 0)) h') ∧ (rightKV k v = false → Q (.v (.int .i64 1)) h)
theorem does_rPut : Does Tryz.prog 66 rPutSpec := by
 refine dA (good_cons does_rRight (good_cons does_tPut good_nil)) Tryz.func66 rfl (by decide +kernel) ?_
 rintro args h Q ⟨R, f, k, v, rfl, hR, hn, hq1, hq2⟩
 refine ⟨by simp [Tryz.f66], ?_⟩
 obtain ⟨lw, ln, lt, h1, h2, h3, h4, h5, h6, h7, h8⟩ := hR
 simp -dsimp only [Vm.G, zA, zB, zC, zD, zE, zF]
 refine call_one (S := rRightSpec) rfl _ GaL.rfl ⟨k, v, rfl, ?_⟩
 cases hr : rightKV k v
 · simp -dsimp only [Vm.E, zA, zB, zC, zD, zE, zG, zH, Tryz.results66]
   exact hq2 hr
 · have hrk : k.length ≤ 32 ∧ v.length ≤ 120 := by unfold rightKV at hr; simp at hr; omega
   simp -dsimp only [Vm.G, zA, zB, zC, zD, zE, zF, fo116_2, h1, of112]
   refine call_one (S := tPutSpec) rfl _ (.cons (.refl _) (.cons (.refl _) (.cons (.nil 1) .nil))) ⟨R.it, lt, k, [], rfl, h4, by omega, by omega, by simp, ?_⟩
   have hi : ∀ {i : Nat} {o : AObj} {h : Heap}, h[i]? = some o → i < h.length := fun {i o h} hx => by
     rcases zQb i h.length with h' | h'
     · exact h'
     · rw [zPa h'] at hx; cases hx
   have g1 : (h.set R.it (tabObj (tput k [] lt)))[R.iv]? = some (.cells [.ptr R.iw 0, .ptr R.inn 0, .ptr R.it 0]) := by rw [zSa (by exact fun e => h5.2.1 e.symm)]; exact h1
   have g3 : (h.set R.it (tabObj (tput k [] lt)))[R.inn]? = some (tabObj ln) := by rw [zSa (by exact fun e => h5.2.2.1 e.symm)]; exact h3
   have g2 : (h.set R.it (tabObj (tput k [] lt)))[R.iw]? = some (tabObj lw) := by rw [zSa (by exact fun e => h5.2.2.2.2 e.symm)]; exact h2
   have g4 : (h.set R.it (tabObj (tput k [] lt)))[R.it]? = some (tabObj (tput k [] lt)) := List.getElem?_set_self (hi h4)
   have gs : Same h (h.set R.it (tabObj (tput k [] lt))) (rFoot R) := ⟨by simp, fun i hl hi => zSa (by simp [rFoot] at hi; exact fun e => hi.2 e.symm)⟩
   generalize h.set R.it (tabObj (tput k [] lt)) = h2' at g1 g2 g3 g4 gs ⊢
   simp -dsimp only [Vm.G, zA, zB, zC, zD, zE, zF, fo116_1, g1, of112]
   refine call_one (S := tPutSpec) rfl _ GaL.rfl ⟨R.inn, ln, k, v, rfl, g3, by omega, by omega, by omega, ?_⟩
   simp -dsimp only [Vm.E, zA, zB, zC, zD, zE, zG, zH, Tryz.results66]
   refine hq1 hr _ ⟨lw, tput k v ln, tput k [] lt, ?_, ?_, ?_, ?_, h5, h6.put k v, ⟨?_, ?_⟩, fun p hp => ?_⟩ ?_
   · rw [zSa (by exact fun e => h5.1 e.symm)]; exact g1
   · rw [zSa (by exact fun e => h5.2.2.2.1 e.symm)]; exact g2
   · exact List.getElem?_set_self (hi g3)
   · rw [zSa h5.2.2.1]; exact g4
   · have := tput_length k v ln; show _ ≤ f.n + 1; omega
   · have := tput_length k [] lt; show _ ≤ f.n + 1; omega
   · rcases tput_mem1 hp with rfl | hp
     · exact hrk
     · exact h8 p hp
   · exact ⟨by rw [List.length_set]; exact gs.1, fun i hl hi => by
       rw [zSa (by simp [rFoot] at hi; exact fun e => hi.1 e.symm)]; exact gs.2 i hl hi⟩
def rSetSpec : Vm.Spec := fun args h Q => ∃ (R : RId) (f : Fun) (p : KV), args = [.ptr R.iv 0, kvAv p] ∧ isRef h R f ∧ f.n ≤ 536870912 ∧
 ∀ h', isRef h' R (if rightKV p.1 p.2 then upd f p.1 (some p.2) else f) → Same h h' (rFoot R) → Q (.tup []) h'
theorem does_rSet : Does Tryz.prog 96 rSetSpec := by
 refine dA (good_cons does_rPut good_nil) Tryz.func96 rfl (by decide +kernel) ?_
 rintro args h Q ⟨R, f, ⟨k, v⟩, rfl, hR, hn, hq⟩
 refine ⟨by simp [Tryz.f96], ?_⟩
 simp only [kvAv]
 simp -dsimp only [Vm.G, zA, zB, zC, zD, zE, zF, fo124_0, fo124_1, of107]
 refine call_one (S := rPutSpec) rfl _ GaL.rfl ⟨R, f, k, v, rfl, hR, hn, fun hr h' g1 g2 => ?_, fun hr => ?_⟩
 · simp -dsimp only [Vm.E, zA, zB, zC, zD, zE, zG, zH, Tryz.results96]
   exact hq h' (by simp only [hr, if_true]; exact g1) g2
 · simp -dsimp only [Vm.E, zA, zB, zC, zD, zE, zG, zH, Tryz.results96]
   exact hq h (by simp only [hr]; exact hR) (.refl _ _)
def rNumSpec : Vm.Spec := fun args h Q => ∃ (R : RId) (f : Fun) (k : List UInt8), args = [.ptr R.iv 0, .sl 1 (k.map encB)] ∧ isRef h R f ∧ f.n ≤ 536870912 ∧ ∀ b, Q (.tup [.v (.int .i64 (readOf f k)), .v (.bool b)]) h
theorem does_rNum : Does Tryz.prog 114 rNumSpec := by
 refine dA (good_cons does_rGet (good_cons does_rUnpack good_nil)) Tryz.func114 rfl (by decide +kernel) ?_
 rintro args h Q ⟨R, f, k, rfl, hR, hn, hq⟩
 refine ⟨by simp [Tryz.f114], ?_⟩
 unfold readOf at hq
 have hlen := fun l hf => (hR.len (k := k) (l := l) hf).2
 simp -dsimp only [Vm.E, zA, zB, zC, zD, zE, zG, zH]
 refine call_one (S := rGetSpec) rfl _ GaL.rfl ⟨R, f, k, rfl, hR, hn, fun l hf => ?_, fun hf => ?_⟩
 · have hl := hlen l hf
   rw [hf] at hq
   have hq : ∀ b, Q (.tup [.v (.int .i64 (if l.length = 8 then num8 l 0 else 0)), .v (.bool b)]) h := hq
   simp -dsimp only [Vm.E, zA, zB, zC, zD, zE, zG, zH]
   refine call_one (S := unpackSpec) rfl _ GaL.rfl ⟨l, 1, by omega, by unfold I64; omega, rfl, ?_⟩
   unfold unpackRes
   by_cases h8 : l.length = 8
   · rw [if_pos h8] at hq
     rw [if_neg (by omega), if_neg (by simp [h8])]
     have e0 : (numsOf l 1)[0]'(by simp [numsOf]) = num8 l 0 := by simp [numsOf]
     simp -dsimp only [Vm.E, zA, zB, zC, zD, zE, zG, zH, bne_self_eq_false, es162, as162]
     refine idx_ints (numsOf l 1) 0 (by simp [numsOf]) ?_
     simp -dsimp only [Vm.E, zA, zB, zC, zD, zE, zG, zH, of3, e0, Tryz.results114]
     exact hq true
   · rw [if_neg h8] at hq
     rw [if_neg (by omega), if_pos (by omega)]
     simp -dsimp only [Vm.E, zA, zB, zC, zD, zE, zG, zH, Tryz.results114]
     exact hq false
 · rw [hf] at hq
   simp -dsimp only [Vm.E, zA, zB, zC, zD, zE, zG, zH]
   refine call_one (S := unpackSpec) rfl _ GaL.rfl ⟨[], 1, by simp, by unfold I64; omega, rfl, ?_⟩
   unfold unpackRes
   rw [if_neg (by omega), if_pos (by simp)]
   simp -dsimp only [Vm.E, zA, zB, zC, zD, zE, zG, zH, Tryz.results114]
   exact hq false
def rLastSpec : Vm.Spec := fun args h Q => ∃ (R : RId) (f : Fun) (which : Int), args = [.ptr R.iv 0, .v (.int .i64 which)] ∧ isRef h R f ∧ f.n ≤ 536870912 ∧ Q (.v (.int .i64 (readOf f (seqKey which)))) h
theorem does_rLast : Does Tryz.prog 151 rLastSpec := by
 refine dA (good_cons does_rKey (good_cons does_rNum good_nil)) Tryz.func151 rfl (by decide +kernel) ?_
 rintro args h Q ⟨R, f, which, rfl, hR, hn, hq⟩
 refine ⟨by simp [Tryz.f151], ?_⟩
 simp -dsimp only [Vm.E, zA, zB, zC, zD, zE, zG, zH, es162]
 refine bs_intro zr3 (by decide) (by decide) rfl rfl (by simp [solid, AV.cells]) ?_
 simp -dsimp only [Vm.E, zA, zB, zC, zD, zE, zG, zH]
 refine call_one (S := keySpec) rfl _ GaL.rfl ⟨83, [which], by simp, rfl, ?_⟩
 simp -dsimp only [Vm.E, zA, zB, zC, zD, zE, zG, zH]
 refine call_one (S := rNumSpec) rfl _ GaL.rfl ⟨R, f, seqKey which, rfl, hR, hn, fun b => ?_⟩
 simp -dsimp only [Vm.E, zA, zB, zC, zD, zE, zG, zH, Tryz.results151]
 exact hq
def rNextSpec : Vm.Spec := fun args h Q => ∃ (R : RId) (f : Fun) (which : Int), args = [.ptr R.iv 0, .v (.int .i64 which)] ∧ isRef h R f ∧ f.n ≤ 536870912 ∧
 (readOf f (seqKey which) < 0 ∨ 4294967294 < readOf f (seqKey which) → Q (.tup [.v (.int .i64 0), .v (.int .i64 9)]) h) ∧
 (¬ (readOf f (seqKey which) < 0 ∨ 4294967294 < readOf f (seqKey which)) → ∀ h', isRef h' R (upd f (seqKey which) (some (be 8 (readOf f (seqKey which) + 1)))) → Same h h' (rFoot R) →
   Q (.tup [.v (.int .i64 (readOf f (seqKey which) + 1)), .v (.int .i64 0)]) h')
theorem does_rNext : Does Tryz.prog 95 rNextSpec := by
 refine dA (good_cons does_rLast (good_cons does_rKey (good_cons does_rPack (good_cons does_rPut good_nil)))) Tryz.func95 rfl (by decide +kernel) ?_
 rintro args h Q ⟨R, f, which, rfl, hR, hn, hq1, hq2⟩
 refine ⟨by simp [Tryz.f95], ?_⟩
 have hr := readOf_range f (seqKey which)
 simp -dsimp only [Vm.E, zA, zB, zC, zD, zE, zG, zH]
 refine call_one (S := rLastSpec) rfl _ GaL.rfl ⟨R, f, which, rfl, hR, hn, ?_⟩
 generalize readOf f (seqKey which) = n at hr hq1 hq2 ⊢
 unfold I64 at hr
 simp -dsimp only [Vm.E, zA, zB, zC, zD, zE, zG, zH]
 cases c1 : decide (n < 0)
 · simp -dsimp only [Vm.E, zA, zB, zC, zD, zE, zG, zH]
   cases c2 : decide (n > 4294967294)
   · have d1 := of_decide_eq_false c1
     have d2 := of_decide_eq_false c2
     have hw : IntKind.i64.wrap (n + 1) = n + 1 := wrap_i64 (by omega) (by omega)
     simp -dsimp only [Vm.E, zA, zB, zC, zD, zE, zG, zH, es162]
     refine bs_intro zr3 (by decide) (by decide) rfl rfl (by simp [solid, AV.cells]) ?_
     simp -dsimp only [Vm.E, zA, zB, zC, zD, zE, zG, zH]
     refine call_one (S := keySpec) rfl _ GaL.rfl ⟨83, [which], by simp, rfl, ?_⟩
     simp -dsimp only [Vm.E, zA, zB, zC, zD, zE, zG, zH, hw, es162]
     refine bs_intro zr3 (by decide) (by decide) rfl rfl (by simp [solid, AV.cells]) ?_
     simp -dsimp only [Vm.E, zA, zB, zC, zD, zE, zG, zH]
     refine call_one (S := packSpec) rfl _ GaL.rfl ⟨[n + 1], by simp, fun m hm => by simp at hm; subst hm; unfold I64; omega, rfl, ?_⟩
     simp only [packOf_one]
     simp -dsimp only [Vm.E, zA, zB, zC, zD, zE, zG, zH]
     refine call_one (S := rPutSpec) rfl _ GaL.rfl ⟨R, f, seqKey which, be 8 (n + 1), rfl, hR, hn, fun _ h' g1 g2 => ?_, fun hc => by rw [right_seq] at hc; cases hc⟩
     simp -dsimp only [Vm.E, zA, zB, zC, zD, zE, zG, zH, hw, Tryz.results95]
     exact hq2 (by omega) h' g1 g2
   · have d2 := of_decide_eq_true c2
     simp -dsimp only [Vm.E, zA, zB, zC, zD, zE, zG, zH, Tryz.results95]
     exact hq1 (by omega)
 · have d1 := of_decide_eq_true c1
   simp -dsimp only [Vm.E, zA, zB, zC, zD, zE, zG, zH, Tryz.results95]
   exact hq1 (by omega)
def rStateSpec : Vm.Spec := fun args h Q => ∃ (R : RId) (f : Fun) (n : Int), args = [.ptr R.iv 0, .v (.int .i64 n)] ∧ isRef h R f ∧ f.n ≤ 536870912 ∧ Q (.v (.int .i64 (stateOf f n))) h
theorem does_rState : Does Tryz.prog 61 rStateSpec := by
 refine dA (good_cons does_rKey (good_cons does_rNum good_nil)) Tryz.func61 rfl (by decide +kernel) ?_
 rintro args h Q ⟨R, f, n, rfl, hR, hn, hq⟩
 refine ⟨by simp [Tryz.f61], ?_⟩
 unfold stateOf at hq
 simp -dsimp only [Vm.E, zA, zB, zC, zD, zE, zG, zH, es162]
 refine bs_intro zr3 (by decide) (by decide) rfl rfl (by simp [solid, AV.cells]) ?_
 simp -dsimp only [Vm.E, zA, zB, zC, zD, zE, zG, zH]
 refine call_one (S := keySpec) rfl _ GaL.rfl ⟨89, [n], by simp, rfl, ?_⟩
 simp -dsimp only [Vm.E, zA, zB, zC, zD, zE, zG, zH]
 refine call_one (S := rNumSpec) rfl _ GaL.rfl ⟨R, f, yrK n, rfl, hR, hn, fun b => ?_⟩
 generalize readOf f (yrK n) = x at hq ⊢
 simp -dsimp only [Vm.E, zA, zB, zC, zD, zE, zG, zH]
 cases c1 : (x == 1)
 · have d1 : ¬ x = 1 := by simpa using c1
   simp -dsimp only [Vm.E, zA, zB, zC, zD, zE, zG, zH]
   cases c2 : (x == 2)
   · have d2 : ¬ x = 2 := by simpa using c2
     rw [if_neg (by simp [d1, d2])] at hq
     simp -dsimp only [Vm.E, zA, zB, zC, zD, zE, zG, zH, Tryz.results61]
     exact hq
   · have d2 : x = 2 := by simpa using c2
     rw [if_pos (.inr d2)] at hq
     simp -dsimp only [Vm.E, zA, zB, zC, zD, zE, zG, zH, Tryz.results61]
     exact hq
 · have d1 : x = 1 := by simpa using c1
   rw [if_pos (.inl d1)] at hq
   simp -dsimp only [Vm.E, zA, zB, zC, zD, zE, zG, zH, Tryz.results61]
   exact hq
def ySetSpec : Vm.Spec := fun args h Q => ∃ (R : RId) (f : Fun) (n st : Int), args = [.ptr R.iv 0, .v (.int .i64 n), .v (.int .i64 st)] ∧ I64 st ∧ isRef h R f ∧ f.n ≤ 536870912 ∧ ∀ h', isRef h' R (yrTurn f n st) → Same h h' (rFoot R) → Q (.v (.int .i64 0)) h'
theorem does_ySet : Does Tryz.prog 62 ySetSpec := by
 refine dA (good_cons does_rKey (good_cons does_rPack (good_cons does_rPut good_nil))) Tryz.func62 rfl (by decide +kernel) ?_
 rintro args h Q ⟨R, f, n, st, rfl, hst, hR, hn, hq⟩
 refine ⟨by simp [Tryz.f62], ?_⟩
 simp -dsimp only [Vm.E, zA, zB, zC, zD, zE, zG, zH, es162]
 refine bs_intro zr3 (by decide) (by decide) rfl rfl (by simp [solid, AV.cells]) ?_
 simp -dsimp only [Vm.E, zA, zB, zC, zD, zE, zG, zH]
 refine call_one (S := keySpec) rfl _ GaL.rfl ⟨89, [n], by simp, rfl, ?_⟩
 simp -dsimp only [Vm.E, zA, zB, zC, zD, zE, zG, zH, es162]
 refine bs_intro zr3 (by decide) (by decide) rfl rfl (by simp [solid, AV.cells]) ?_
 simp -dsimp only [Vm.E, zA, zB, zC, zD, zE, zG, zH]
 refine call_one (S := packSpec) rfl _ GaL.rfl ⟨[st], by simp, by simpa using hst, rfl, ?_⟩
 simp only [packOf_one]
 simp -dsimp only [Vm.E, zA, zB, zC, zD, zE, zG, zH]
 refine call_one (S := rPutSpec) rfl _ GaL.rfl ⟨R, f, yrK n, be 8 st, rfl, hR, hn, fun _ h' g1 g2 => ?_, fun hc => by rw [right_yr] at hc; cases hc⟩
 simp -dsimp only [Vm.E, zA, zB, zC, zD, zE, zG, zH, Tryz.results62]
 exact hq h' g1 g2
theorem does_rYRight : Does Tryz.prog 60 yrRightSpec := by
 refine dA good_nil Tryz.func60 rfl (by decide +kernel) ?_
 rintro args h Q ⟨n, rfl, hq⟩
 refine ⟨by simp [Tryz.f60], ?_⟩
 unfold rightY at hq
 simp -dsimp only [Vm.E, zA, zB, zC, zD, zE, zG, zH]
 have e : decide (n ≥ 2000) = decide (2000 ≤ n) := rfl
 cases c1 : decide (2000 ≤ n)
 · rw [c1] at hq
   simp -dsimp only [Vm.E, zA, zB, zC, zD, zE, zG, zH, e, c1, Tryz.results60]
   exact hq
 · rw [c1] at hq
   simp -dsimp only [Vm.E, zA, zB, zC, zD, zE, zG, zH, e, c1, Tryz.results60]
   exact hq
def rOpenSpec : Vm.Spec := fun args h Q => ∃ (R : RId) (f : Fun) (n : Int), args = [.ptr R.iv 0, .v (.int .i64 n)] ∧ isRef h R f ∧ f.n ≤ 536870912 ∧ ∀ h', isRef h' R (openOf f n).1 → Same h h' (rFoot R) → Q (.v (.int .i64 (openOf f n).2)) h'
theorem does_rOpen : Does Tryz.prog 25 rOpenSpec := by
 refine dA (good_cons does_rYRight (good_cons does_rState (good_cons does_ySet good_nil))) Tryz.func25 rfl (by decide +kernel) ?_
 rintro args h Q ⟨R, f, n, rfl, hR, hn, hq⟩
 refine ⟨by simp [Tryz.f25], ?_⟩
 unfold openOf at hq
 simp -dsimp only [Vm.E, zA, zB, zC, zD, zE, zG, zH]
 refine call_one (S := yrRightSpec) rfl _ GaL.rfl ⟨n, rfl, ?_⟩
 cases c1 : rightY n
 · rw [c1] at hq
   simp -dsimp only [Vm.E, zA, zB, zC, zD, zE, zG, zH, Tryz.results25]
   exact hq h hR (.refl _ _)
 · rw [c1] at hq
   simp -dsimp only [Vm.E, zA, zB, zC, zD, zE, zG, zH]
   refine call_one (S := rStateSpec) rfl _ GaL.rfl ⟨R, f, n, rfl, hR, hn, ?_⟩
   simp -dsimp only [Vm.E, zA, zB, zC, zD, zE, zG, zH]
   cases c2 : (stateOf f n != 0)
   · have d2 : stateOf f n = 0 := by simpa using c2
     rw [if_pos rfl, if_pos d2] at hq
     simp -dsimp only [Vm.E, zA, zB, zC, zD, zE, zG, zH]
     refine call_one (S := ySetSpec) rfl _ GaL.rfl ⟨R, f, n, 1, rfl, by unfold I64; omega, hR, hn, fun h' g1 g2 => ?_⟩
     simp -dsimp only [Vm.E, zA, zB, zC, zD, zE, zG, zH, Tryz.results25]
     exact hq h' g1 g2
   · have d2 : ¬ stateOf f n = 0 := by simpa using c2
     rw [if_pos rfl, if_neg d2] at hq
     simp -dsimp only [Vm.E, zA, zB, zC, zD, zE, zG, zH, Tryz.results25]
     exact hq h hR (.refl _ _)
def rCheckSpec : Vm.Spec := fun args h Q => ∃ (R : RId) (f : Fun) (n : Int), args = [.ptr R.iv 0, .v (.int .i64 n)] ∧ isRef h R f ∧ f.n ≤ 536870912 ∧ Q (.v (.int .i64 (checkY f n))) h
theorem does_rCheck : Does Tryz.prog 89 rCheckSpec := by
 refine dA (good_cons does_rState good_nil) Tryz.func89 rfl (by decide +kernel) ?_
 rintro args h Q ⟨R, f, n, rfl, hR, hn, hq⟩
 refine ⟨by simp [Tryz.f89], ?_⟩
 unfold checkY at hq
 simp -dsimp only [Vm.E, zA, zB, zC, zD, zE, zG, zH]
 refine call_one (S := rStateSpec) rfl _ GaL.rfl ⟨R, f, n, rfl, hR, hn, ?_⟩
 rcases stateOf_cases f n with e | e | e <;> rw [e] at hq ⊢ <;> simp -dsimp only [Vm.E, zA, zB, zC, zD, zE, zG, zH, Tryz.results89] <;> exact hq
end Go.Proofs.Lx
namespace Go.Proofs.Lx
open Go.Vm
attribute [local irreducible] awpArr awpBin awpMake awpAppend awpCvX awpStrOf awpBinX awpSlice awpBS awpStore awpAlloc awpCopy awpIndex awpDraw awpIdxX awpFa awpField awpLookup awpUpdate awpDelete awpClear awpRange awpNext awpEntry awpBuild awpClearS awpIdxL awpTree appB
abbrev preL (pre : List UInt8) (l : List KV) : List KV := l.filter fun p => pre.isPrefixOf p.1
def tScanSpec : Vm.Spec := fun args h Q => ∃ (i : Nat) (l : List KV) (pre : List UInt8), args = [.ptr i 0, .sl 1 (pre.map encB)] ∧ h[i]? = some (tabObj l) ∧ l.length ≤ 1073741824 ∧ pre.length ≤ 1073741824 ∧ (∀ p ∈ l, p.1.length ≤ 32) ∧
 Q (.own true 124 2 ((preL pre l).map kvAv)) h
theorem does_tScan : Does Tryz.prog 161 tScanSpec := by
 refine does_of_awp good_nil Tryz.func161 rfl (by decide +kernel) (by decide +kernel) ?_
 rintro args h Q ⟨id, l, pre, rfl, hh, hl, hpl, hk32, hq⟩
 unfold tabObj at hh
 refine ⟨by simp [Tryz.f161], ?_⟩
 rw [awpFunc_some (by rfl)]
 simp -dsimp only [Vm.E, zA, zB, zC, zD, zE, zG, zH]
 refine awp_loop (fun m s h' => ∃ i : Nat, i + m = l.length ∧ h' = h ∧ s = mk [(0, .ptr id 0), (1, .sl 1 (pre.map encB)), (5, .own true 124 2 ((preL pre (l.take i)).map kvAv)), (6, .v (.int .i64 i))])
   l.length _ (le_mk _ ?_) ⟨0, by omega, rfl, rfl⟩ ?_
 · simp only [Vm.D]
   simp -dsimp only [Vm.E, zA, zB, zC, zD, zE, zG, zH]
   exact ⟨.refl _, .refl _, .nil _ _ _ (by decide), .refl _⟩
 · rintro m s h' ⟨i, hi, rfl, rfl⟩
   simp -dsimp only [Vm.E, zA, zB, zC, zD, zE, zG, zH, fo114_0, hh, of76, Tryz.underlying76]
   refine cond_intro (fun hcc => ?_) (fun hcc => ?_)
   · have hlt : i < l.length := by have := of_decide_eq_true hcc; omega
     have hw := hwN i (by omega)
     obtain ⟨p, hp⟩ : ∃ p, l[i] = p := ⟨_, rfl⟩
     have hkp := hk32 p (hp ▸ zOb hlt)
     have hpre : (preL pre (l.take i)).length ≤ i := Nat.le_trans (List.length_filter_le ..) (by rw [zKb]; omega)
     have est : preL pre (l.take (i + 1)) = preL pre (l.take i) ++ if pre.isPrefixOf p.1 then [p] else [] := by
       rw [List.take_succ_eq_append_getElem hlt, preL, List.filter_append, hp, List.filter_cons, List.filter_nil]
     simp -dsimp only [Vm.E, zA, zB, zC, zD, zE, zG, zH, fo114_0, hh, of76, es76, as76]
     refine idx_map kvAv l i hlt ?_
     simp only [hp, kvAv]
     simp -dsimp only [Vm.G, zA, zB, zC, zD, zE, zF, AV.cells, fo124_0, of107]
     have e1 : (p.1.map encB).take (pre.length : Int).toNat = (p.1.take pre.length).map encB := by rw [zWa, List.map_take]
     refine draw_cont [] (.take 0 (.take 1 (.take 2 (.take 3 (.take 4 (.take 5 (.take 6 (.take 7 (.take 8 (.take 9 (.take 11 (.alt 10 (.alt 12 (.take 13 (.take 14 (.done))) .stop) (.alt 12 (.alt 10 (.take 13 (.take 14 (.done))) .stop) (.stop)))))))))))))) (fun s hx => hx = h' ∧ s 39 = .v (.bool (pre.isPrefixOf p.1)) ∧ s 0 = .ptr id 0 ∧ s 1 = .sl 1 (pre.map encB) ∧ s 5 = .own true 124 2 ((preL pre (l.take i)).map kvAv) ∧ s 6 = .v (.int .i64 i)) (by kernel_rfl) (by kernel_rfl) (by kernel_rfl) (by decide) ?_ ?_
     · by_cases hle : pre.length ≤ p.1.length
       · have c1 : decide ((p.1.length : Int) ≥ pre.length) = true := decide_eq_true (by omega)
         simp only [← isPrefixOf_take p.1 pre hle]
         repeat' first
           | with_reducible exact True.intro
           | simp -dsimp only [Vm.E, zA, zB, zC, zD, zE, zG, zH, c1, e1, Tryz.underlying107, cs107, str_eql, toList_mk]
           | refine strOf_sl bt107 pre rfl ?_
           | refine strOf_sl bt107 (p.1.take pre.length) rfl ?_
           | refine slice_h es107 (by omega) (by rw [zIa]; omega) ?_
           | refine tree_alt ?_ ?_
       · have c1 : decide ((p.1.length : Int) ≥ pre.length) = false := decide_eq_false (by omega)
         simp only [isPrefixOf_long p.1 pre hle]
         repeat' first
           | with_reducible exact True.intro
           | simp -dsimp only [Vm.E, zA, zB, zC, zD, zE, zG, zH, c1, Tryz.underlying107]
           | refine tree_alt ?_ ?_
     · rintro s hx ⟨rfl, e39, e0, e1, e5, e6⟩
       cases hb : pre.isPrefixOf p.1
       · rw [hb] at e39 est
         simp only [Bool.false_eq_true, if_false, zPb] at est
         simp -dsimp only [Vm.E, zA, zB, zC, zD, zE, zG, zH, e39, e0, e1, e5, e6]
         refine kept_intro ⟨l.length - (i + 1), by omega, _, le_mk [(0, .ptr id 0), (1, .sl 1 (pre.map encB)), (5, .own true 124 2 ((preL pre (l.take (i + 1))).map kvAv)), (6, .v (.int .i64 (i + 1 : Nat)))] ?_, i + 1, by omega, rfl, rfl⟩
         simp only [Vm.D, est]
         simp -dsimp only [Vm.E, zA, zB, zC, zD, zE, zG, zH, e39, e0, e1, e5, e6, hw]
         exact ⟨.refl _, .refl _, .refl _, .refl _⟩
       · rw [hb] at e39 est
         simp only [if_true] at est
         simp -dsimp only [Vm.E, zA, zB, zC, zD, zE, zG, zH, e39, e0, e1, e5, e6, fo114_0, hh, of76, es76, as76]
         refine idx_map kvAv l i hlt ?_
         simp only [hp, kvAv]
         simp -dsimp only [Vm.E, zA, zB, zC, zD, zE, zG, zH, e39, e0, e1, e5, e6, Vm.S, Nat.reduceLeDiff, AV.cells, of124, es76]
         refine bs_intro zr124 (by decide) (by decide) rfl rfl (by simp [solid, AV.cells]) ?_
         simp -dsimp only [Vm.E, zA, zB, zC, zD, zE, zG, zH, e39, e0, e1, e5, e6, append_own ei76]
         refine app_sl Tryz.underlying76 (by simp [AV.cells]) (by simp only [zIa, zJa, zMa]; omega) ?_
         simp -dsimp only [Vm.E, zA, zB, zC, zD, zE, zG, zH, e39, e0, e1, e5, e6]
         refine kept_intro ⟨l.length - (i + 1), by omega, _, le_mk [(0, .ptr id 0), (1, .sl 1 (pre.map encB)), (5, .own true 124 2 ((preL pre (l.take (i + 1))).map kvAv)), (6, .v (.int .i64 (i + 1 : Nat)))] ?_, i + 1, by omega, rfl, rfl⟩
         simp only [Vm.D, est, zRb, List.map_cons, zSb, kvAv]
         simp -dsimp only [Vm.E, zA, zB, zC, zD, zE, zG, zH, e39, e0, e1, e5, e6, hw]
         exact ⟨.refl _, .refl _, .refl _, .refl _⟩
   · have hge : ¬ i < l.length := by have := of_decide_eq_false hcc; omega
     simp -dsimp only [Vm.E, zA, zB, zC, zD, zE, zG, zH, Tryz.results161]
     rw [zTa (by omega)]
     exact hq
def rScanSpec : Vm.Spec := fun args h Q => ∃ (R : RId) (f : Fun) (pre : List UInt8), args = [.ptr R.iv 0, .sl 1 (pre.map encB)] ∧ pre.length ≤ 1073741824 ∧ isRef h R f ∧ f.n ≤ 536870912 ∧
 ∀ l, ScanIs f pre l → l.length ≤ f.n → Q (.own true 124 2 (l.map kvAv)) h
theorem does_rScan : Does Tryz.prog 101 rScanSpec := by
 refine dA (good_cons does_tScan good_nil) Tryz.func101 rfl (by decide +kernel) ?_
 rintro args h Q ⟨R, f, pre, rfl, hpl, hR, hn, hq⟩
 refine ⟨by simp [Tryz.f101], ?_⟩
 obtain ⟨lw, ln, lt, h1, h2, h3, h4, h5, h6, h7, h8⟩ := hR
 simp -dsimp only [Vm.G, zA, zB, zC, zD, zE, zF, fo116_1, h1, of112]
 refine call_one (S := tScanSpec) rfl _ GaL.rfl ⟨R.inn, ln, pre, rfl, h3, by omega, hpl, fun p hp => (h8 p hp).1, ?_⟩
 simp -dsimp only [Vm.E, zA, zB, zC, zD, zE, zG, zH, Tryz.results101]
 exact hq _ (h6.scan pre) (Nat.le_trans (List.length_filter_le ..) h7.1)
def Both (h : Heap) (V : VId) (R : RId) (f : Fun) : Prop := isView h V f ∧ isRef h R f ∧ (∀ i ∈ [V.iv, V.ic, V.im], i ∉ [R.iv, R.iw, R.inn, R.it])
theorem get_lt {h : Heap} {i : Nat} {o : AObj} (hx : h[i]? = some o) : i < h.length := by
 rcases zQb i h.length with h' | h'
 · exact h'
 · rw [zPa h'] at hx; cases hx
theorem Same.get {h h' : Heap} {fp : List Nat} (hs : Same h h' fp) {i : Nat} {o : AObj} (hx : h[i]? = some o) (hi : i ∉ fp) : h'[i]? = some o := by rw [hs.2 i (get_lt hx) hi]; exact hx
theorem isView.same {h h' : Heap} {V : VId} {f : Fun} {fp : List Nat} (hV : isView h V f) (hs : Same h h' fp) (hd : ∀ i ∈ [V.iv, V.ic, V.im], i ∉ fp) : isView h' V f := by
 obtain ⟨chg, clk, mem, clk2, h1, h2, h3, h4⟩ := hV
 exact ⟨chg, clk, mem, clk2, hs.get h1 (hd _ (by simp)), hs.get h2 (hd _ (by simp)), hs.get h3 (hd _ (by simp)), h4⟩
theorem isRef.same {h h' : Heap} {R : RId} {f : Fun} {fp : List Nat} (hR : isRef h R f) (hs : Same h h' fp) (hd : ∀ i ∈ [R.iv, R.iw, R.inn, R.it], i ∉ fp) : isRef h' R f := by
 obtain ⟨lw, ln, lt, h1, h2, h3, h4, h5⟩ := hR
 exact ⟨lw, ln, lt, hs.get h1 (hd _ (by simp)), hs.get h2 (hd _ (by simp)), hs.get h3 (hd _ (by simp)), hs.get h4 (hd _ (by simp)), h5⟩
theorem Both.view {h h' : Heap} {V : VId} {R : RId} {f g : Fun} (hB : Both h V R f) (hV : isView h' V g) (hs : Same h h' [V.ic]) : isRef h' R f := by
 refine hB.2.1.same hs fun i hi hm => ?_
 rw [zJb] at hm; subst hm
 exact hB.2.2 V.ic (by simp) hi
theorem Both.ref {h h' h2 : Heap} {V : VId} {R : RId} {f g : Fun} (hB : Both h V R f) (hV : isView h' V g) (hR : isRef h2 R g) (hs : Same h' h2 (rFoot R)) : Both h2 V R g := by
 refine ⟨hV.same hs fun i hi hm => ?_, hR, hB.2.2⟩
 refine hB.2.2 i hi ?_
 simp [rFoot] at hm ⊢
 rcases hm with rfl | rfl <;> simp
theorem Both.quiet {h h' : Heap} {V : VId} {R : RId} {f : Fun} (hB : Both h V R f) (hV : isView h' V f) (hs : Same h h' []) : Both h' V R f :=
 ⟨hV, hB.2.1.same hs (by simp), hB.2.2⟩
end Go.Proofs.Lx
namespace Go.Proofs.Lx
open Go.Vm
attribute [local irreducible] awpArr awpBin awpMake awpAppend awpCvX awpStrOf awpBinX awpSlice awpBS awpStore awpAlloc awpCopy awpIndex awpDraw awpIdxX awpFa awpField awpLookup awpUpdate awpDelete awpClear awpRange awpNext awpEntry awpBuild awpClearS awpIdxL
theorem isA_nd {y : AV} (h : IsA (.agg [.int .i64, .int .i64, .int .i64, .int .i64, .int .i64, .bool, .int .i64, .int .i64, .int .i64, .int .i64, .int .i64, .int .i64]) y) : ∃ n : Nd, n.ok ∧ y = ndAv n := by
 simp only [IsA, IsAll] at h
 obtain ⟨ys, ⟨y1, r1, rfl, h1, y2, r2, rfl, h2, y3, r3, rfl, h3, y4, r4, rfl, h4, y5, r5, rfl, h5, y6, r6, rfl, h6, y7, r7, rfl, h7, y8, r8, rfl, h8, y9, r9, rfl, h9, y10, r10, rfl, h10, y11, r11, rfl, h11, y12, r12, rfl, h12, rfl⟩, rfl⟩ := h
 obtain ⟨a1, k1, rfl⟩ := isA_int (by simpa only [IsA] using h1)
 obtain ⟨a2, k2, rfl⟩ := isA_int (by simpa only [IsA] using h2)
 obtain ⟨a3, k3, rfl⟩ := isA_int (by simpa only [IsA] using h3)
 obtain ⟨a4, k4, rfl⟩ := isA_int (by simpa only [IsA] using h4)
 obtain ⟨a5, k5, rfl⟩ := isA_int (by simpa only [IsA] using h5)
 obtain ⟨a6, rfl⟩ := h6
 obtain ⟨a7, k7, rfl⟩ := isA_int (by simpa only [IsA] using h7)
 obtain ⟨a8, k8, rfl⟩ := isA_int (by simpa only [IsA] using h8)
 obtain ⟨a9, k9, rfl⟩ := isA_int (by simpa only [IsA] using h9)
 obtain ⟨a10, k10, rfl⟩ := isA_int (by simpa only [IsA] using h10)
 obtain ⟨a11, k11, rfl⟩ := isA_int (by simpa only [IsA] using h11)
 obtain ⟨a12, k12, rfl⟩ := isA_int (by simpa only [IsA] using h12)
 exact ⟨⟨a1, a2, a3, a4, a5, a6, a7, a8, a9, a10, a11, a12⟩, ⟨k1, k2, k3, k4, k5, k7, k8, k9, k10, k11, k12⟩, rfl⟩
end Go.Proofs.Lx
namespace Go.Proofs.Lx
open Go.Vm
attribute [local irreducible] awpArr awpBin awpMake awpAppend awpCvX awpStrOf awpBinX awpSlice awpBS awpStore awpAlloc awpCopy awpIndex awpDraw awpIdxX awpFa awpField awpLookup awpUpdate awpDelete awpClear awpRange awpNext awpEntry awpBuild awpClearS awpIdxL awpTree appB awpIdxO eltA treeA
def vdelSpec : Vm.Spec := fun args h Q => ∃ (V : VId) (f : Fun) (k : List UInt8), args = [.ptr V.iv 0, .sl 1 (k.map encB)] ∧ isView h V f ∧ (f k = none → Q (.v (.bool false)) h) ∧ (f k ≠ none → ∀ h', isView h' V (upd f k none) → Same h h' [V.ic] → Q (.v (.bool true)) h')
theorem does_vdel : Does Tryz.prog 324 vdelSpec := by
 refine dA (good_cons does_vgetW good_nil) Tryz.func324 rfl (by decide +kernel) ?_
 rintro args h Q ⟨V, f, k, rfl, hV, hq1, hq2⟩
 refine ⟨by simp [Tryz.f324], ?_⟩
 simp -dsimp only [Vm.G, zA, zB, zC, zD, zE, zF, q324.1]
 refine call_one (S := vgetWSpec) rfl _ GaL.rfl ⟨V, f, k, rfl, hV, fun l hf => ?_, fun hf => ?_⟩
 · have hk32 := hV.klen hf
   obtain ⟨chg, clk, mem, clk2, h1, h2, h3, h4, h5, h6, h7⟩ := hV
   simp -dsimp only [Vm.G, zA, zB, zC, zD, zE, zF, q324.1]
   refine draw_cont [] (.take 0 (.take 1 (.take 2 (.take 4 (.take 5 (.alt 3 (.alt 6 (.alt 7 (.done) .stop) .stop) (.alt 6 (.alt 3 (.alt 7 (.done) .stop) .stop) (.stop)))))))) (fun s h' => isView h' V (upd f k none) ∧ Same h h' [V.ic]) (by kernel_rfl) (by kernel_rfl) (by kernel_rfl) (by decide) ?_ ?_
   · repeat' first
       | with_reducible exact True.intro
       | exact ⟨isView.put (l := []) (b := true) h1 h2 h3 h4 h5 h6 h7 (.inr ⟨rfl, rfl⟩) (by simp) hk32, Same.set _ _ _⟩
       | simp -dsimp only [Vm.G, zA, zB, zC, zD, zE, zF, q324.1, h1]
       | refine strOf_sl bt107 k rfl ?_
       | refine update_intro mt71 chg clk h2 trivial (keys_str fun e he => (h5.1 e he).1) ?_
       | refine tree_alt ?_ ?_
   · rintro s h' ⟨g1, g2⟩
     simp -dsimp only [Vm.G, zA, zB, zC, zD, zE, zF, q324.1]
     exact hq2 (by rw [hf]; simp) h' g1 g2
 · simp -dsimp only [Vm.G, zA, zB, zC, zD, zE, zF, q324.1]
   exact hq1 hf
def numberSpec : Vm.Spec := fun args h Q => ∃ b : List UInt8, b.length ≤ 1073741824 ∧ args = [.sl 1 (b.map encB)] ∧ Q (.tup [.v (.int .i64 (if b.length = 8 then num8 b 0 else 0)), .v (.bool (b.length == 8))]) h
theorem does_number : Does Tryz.prog 110 numberSpec := by
 refine dA (good_cons does_unpack good_nil) Tryz.func110 rfl (by decide +kernel) ?_
 rintro args h Q ⟨b, hl, rfl, hq⟩
 refine ⟨by simp [Tryz.f110], ?_⟩
 simp -dsimp only [Vm.G, zA, zB, zC, zD, zE, zF, q110.1]
 refine call_one (S := unpackSpec) rfl _ GaL.rfl ⟨b, 1, by omega, by unfold I64; omega, rfl, ?_⟩
 unfold unpackRes
 by_cases h8 : b.length = 8
 · have c8 : (b.length == 8) = true := by simpa using h8
   rw [if_pos h8, c8] at hq
   rw [if_neg (by omega), if_neg (by simp [h8])]
   simp -dsimp only [Vm.G, zA, zB, zC, zD, zE, zF, q110.1, bne_self_eq_false]
   refine idx_ints (numsOf b 1) 0 (by simp [numsOf]) ?_
   have e0 : (numsOf b 1)[0]'(by simp [numsOf]) = num8 b 0 := by simp [numsOf]
   simp -dsimp only [Vm.G, zA, zB, zC, zD, zE, zF, q110.1, e0]
   exact hq
 · have c8 : (b.length == 8) = false := by simpa using h8
   rw [if_neg h8, c8] at hq
   rw [if_neg (by omega), if_pos (by omega)]
   simp -dsimp only [Vm.G, zA, zB, zC, zD, zE, zF, q110.1]
   exact hq
def balReadSpec : Vm.Spec := fun args h Q => ∃ (V : VId) (f : Fun) (key : List UInt8), args = [.agg [.ptr V.iv 0, .sl 1 (key.map encB)]] ∧ isView h V f ∧ Q (.v (.int .i64 (readOf f key))) h
theorem does_balRead : Does Tryz.prog 56 balReadSpec := by
 refine dA (good_cons does_vgetW (good_cons does_number good_nil)) Tryz.func56 rfl (by decide +kernel) ?_
 rintro args h Q ⟨V, f, key, rfl, hV, hq⟩
 refine ⟨by simp [Tryz.f56], ?_⟩
 unfold readOf at hq
 simp -dsimp only [Vm.G, zA, zB, zC, zD, zE, zF, q56.1]
 refine call_one (S := vgetWSpec) rfl _ GaL.rfl ⟨V, f, key, rfl, hV, fun l hf => ?_, fun hf => ?_⟩
 · have hl := hV.len _ _ hf
   rw [hf] at hq
   have hq : Q (.v (.int .i64 (if l.length = 8 then num8 l 0 else 0))) h := hq
   simp -dsimp only [Vm.G, zA, zB, zC, zD, zE, zF, q56.1]
   refine call_one (S := numberSpec) rfl _ GaL.rfl ⟨l, by omega, rfl, ?_⟩
   simp -dsimp only [Vm.G, zA, zB, zC, zD, zE, zF, q56.1]
   exact hq
 · rw [hf] at hq
   simp -dsimp only [Vm.G, zA, zB, zC, zD, zE, zF, q56.1]
   exact hq
def balSet (f : Fun) (key : List UInt8) (n : Int) : Fun := if n = 0 then (if f key = none then f else upd f key none) else upd f key (some (be 8 n))
theorem right8 {key : List UInt8} (n : Int) (h1 : 1 ≤ key.length) (h2 : key.length ≤ 32) : rightKV key (be 8 n) = true := by
 simp [rightKV, be_length]; omega
def balWriteSpec : Vm.Spec := fun args h Q => ∃ (V : VId) (f : Fun) (key : List UInt8) (n : Int), args = [.agg [.ptr V.iv 0, .sl 1 (key.map encB)], .v (.int .i64 n)] ∧ I64 n ∧ (1 ≤ key.length ∧ key.length ≤ 32) ∧ isView h V f ∧
 ∀ h', isView h' V (balSet f key n) → Same h h' [V.ic] → Q (.v (.int .i64 0)) h'
theorem does_balWrite : Does Tryz.prog 280 balWriteSpec := by
 refine dA (good_cons does_vdel (good_cons does_pack (good_cons does_vput good_nil))) Tryz.func280 rfl (by decide +kernel) ?_
 rintro args h Q ⟨V, f, key, n, rfl, hn, hk, hV, hq⟩
 refine ⟨by simp [Tryz.f280], ?_⟩
 unfold balSet at hq
 simp -dsimp only [Vm.G, zA, zB, zC, zD, zE, zF, q280.1]
 cases c1 : (n != 0)
 · have d1 : n = 0 := by simpa using c1
   simp only [if_pos d1] at hq
   simp -dsimp only [Vm.G, zA, zB, zC, zD, zE, zF, q280.1]
   refine call_one (S := vdelSpec) rfl _ GaL.rfl ⟨V, f, key, rfl, hV, fun hf => ?_, fun hf h' g1 g2 => ?_⟩
   · simp -dsimp only [Vm.G, zA, zB, zC, zD, zE, zF, q280.1]
     exact hq h (by rw [if_pos hf]; exact hV) (.refl _ _)
   · simp -dsimp only [Vm.G, zA, zB, zC, zD, zE, zF, q280.1]
     exact hq h' (by rw [if_neg hf]; exact g1) g2
 · have d1 : ¬ n = 0 := by simpa using c1
   simp only [if_neg d1] at hq
   simp -dsimp only [Vm.G, zA, zB, zC, zD, zE, zF, q280.1]
   refine draw_cont [2] (.take 0 (.take 1 (.take 2 (.take 3 (.take 4 (.alt 5 (.alt 6 (.alt 7 (.alt 8 (.done) .stop) .stop) .stop) .stop)))))) (fun s h' => isView h' V (upd f key (some (be 8 n))) ∧ Same h h' [V.ic] ∧ s 4 = .v (.int .i64 0)) (by kernel_rfl) (by kernel_rfl) (by kernel_rfl) (by decide) ?_ ?_
   · simp -dsimp only [Vm.G, zA, zB, zC, zD, zE, zF, q280.1]
     refine bs_intro zr3 (by decide) (by decide) rfl rfl (by simp [solid, AV.cells]) ?_
     simp -dsimp only [Vm.G, zA, zB, zC, zD, zE, zF, q280.1]
     refine call_one (S := packSpec) rfl _ GaL.rfl ⟨[n], by simp, by simpa using hn, rfl, ?_⟩
     simp only [packOf_one]
     simp -dsimp only [Vm.G, zA, zB, zC, zD, zE, zF, q280.1]
     refine call_one (S := vputSpec) rfl _ GaL.rfl ⟨V, f, key, be 8 n, rfl, hV, fun _ h' g1 g2 => ?_, fun hc => by rw [right8 n hk.1 hk.2] at hc; cases hc⟩
     simp -dsimp only [Vm.G, zA, zB, zC, zD, zE, zF, q280.1]
     exact ⟨g1, g2, trivial⟩
   · rintro s h' ⟨g1, g2, g3⟩
     simp -dsimp only [Vm.G, zA, zB, zC, zD, zE, zF, q280.1, g3]
     exact hq h' g1 g2
def fitsP (n : Int) : Bool := decide (-4611686018427387904 ≤ n) && decide (n ≤ 4611686018427387904)
theorem does_fits : Does Tryz.prog 323 (predSpec fitsP) := by
 refine dA good_nil Tryz.func323 rfl (by decide +kernel) ?_
 rintro args h Q ⟨n, rfl, hq⟩
 refine ⟨by simp [Tryz.f323], ?_⟩
 unfold fitsP at hq
 simp -dsimp only [Vm.G, zA, zB, zC, zD, zE, zF, q323.1]
 cases c1 : decide (-4611686018427387904 ≤ n)
 · rw [c1] at hq
   simp -dsimp only [Vm.G, zA, zB, zC, zD, zE, zF, q323.1]
   exact hq
 · rw [c1] at hq
   simp -dsimp only [Vm.G, zA, zB, zC, zD, zE, zF, q323.1]
   exact hq
def addA (a b : Int) : Option Int := if fitsP a && (fitsP b && fitsP (w64 (a + b))) then some (w64 (a + b)) else none
def addSpec : Vm.Spec := fun args h Q => ∃ a b, args = [.v (.int .i64 a), .v (.int .i64 b)] ∧ (∀ n, addA a b = some n → Q (.tup [.v (.int .i64 n), .v (.int .i64 0)]) h) ∧ (addA a b = none → Q (.tup [.v (.int .i64 0), .v (.int .i64 9)]) h)
theorem does_add : Does Tryz.prog 279 addSpec := by
 refine dA (good_cons does_fits good_nil) Tryz.func279 rfl (by decide +kernel) ?_
 rintro args h Q ⟨a, b, rfl, hq1, hq2⟩
 refine ⟨by simp [Tryz.f279], ?_⟩
 unfold addA at hq1 hq2
 simp -dsimp only [Vm.G, zA, zB, zC, zD, zE, zF, q279.1]
 refine call_one (S := predSpec fitsP) rfl _ GaL.rfl ⟨a, rfl, ?_⟩
 cases c1 : fitsP a
 · simp -dsimp only [Vm.G, zA, zB, zC, zD, zE, zF, q279.1]
   exact hq2 (by rw [c1]; rfl)
 · simp -dsimp only [Vm.G, zA, zB, zC, zD, zE, zF, q279.1]
   refine call_one (S := predSpec fitsP) rfl _ GaL.rfl ⟨b, rfl, ?_⟩
   cases c2 : fitsP b
   · simp -dsimp only [Vm.G, zA, zB, zC, zD, zE, zF, q279.1]
     exact hq2 (by rw [c1, c2]; rfl)
   · simp -dsimp only [Vm.G, zA, zB, zC, zD, zE, zF, q279.1]
     refine call_one (S := predSpec fitsP) rfl _ GaL.rfl ⟨_, rfl, ?_⟩
     cases c3 : fitsP (IntKind.i64.wrap (a + b))
     · simp -dsimp only [Vm.G, zA, zB, zC, zD, zE, zF, q279.1]
       exact hq2 (by rw [c1, c2, c3]; rfl)
     · simp -dsimp only [Vm.G, zA, zB, zC, zD, zE, zF, q279.1]
       exact hq1 _ (by rw [c1, c2, c3]; rfl)
def ofBalSpec : Vm.Spec := fun args h Q => ∃ (iv : Nat) (l : List Int), l.length ≤ 7 ∧ args = [.ptr iv 0, .sl 1 (l.map encI)] ∧ Q (.agg [.ptr iv 0, .sl 1 ((keyOf 66 l).map encB)]) h
theorem does_ofBal : Does Tryz.prog 55 ofBalSpec := by
 refine dA (good_cons does_key good_nil) Tryz.func55 rfl (by decide +kernel) ?_
 rintro args h Q ⟨iv, l, hl, rfl, hq⟩
 refine ⟨by simp [Tryz.f55], ?_⟩
 simp -dsimp only [Vm.G, zA, zB, zC, zD, zE, zF, q55.1]
 refine call_one (S := keySpec) rfl _ GaL.rfl ⟨66, l, by omega, rfl, ?_⟩
 simp -dsimp only [Vm.G, zA, zB, zC, zD, zE, zF, q55.1]
 exact hq
def balK (y fd ob : Int) : List UInt8 := keyOf 66 [y, fd, ob]
theorem balK_length (y fd ob : Int) : (balK y fd ob).length = 13 := by simp [balK, keyOf, packs, be_length]
structure Ln where
 fund : Int
 obj : Int
 node : Int
 amt : Int
def lnCells (x : Ln) : List AV := [.v (.int .i64 x.fund), .v (.int .i64 x.obj), .v (.int .i64 x.node), .v (.int .i64 x.amt)]
def lnAv (x : Ln) : AV := .agg (lnCells x)
def balGetSpec : Vm.Spec := fun args h Q => ∃ (V : VId) (f : Fun) (y fd ob : Int), args = [.ptr V.iv 0, .v (.int .i64 y), .v (.int .i64 fd), .v (.int .i64 ob)] ∧ isView h V f ∧ Q (.v (.int .i64 (readOf f (balK y fd ob)))) h
theorem does_balGet : Does Tryz.prog 21 balGetSpec := by
 refine dA (good_cons does_ofBal (good_cons does_balRead good_nil)) Tryz.func21 rfl (by decide +kernel) ?_
 rintro args h Q ⟨V, f, y, fd, ob, rfl, hV, hq⟩
 refine ⟨by simp [Tryz.f21], ?_⟩
 simp -dsimp only [Vm.G, zA, zB, zC, zD, zE, zF, q21.1]
 refine bs_intro zr3 (by decide) (by decide) rfl rfl (by simp [solid, AV.cells]) ?_
 simp -dsimp only [Vm.G, zA, zB, zC, zD, zE, zF, q21.1]
 refine call_one (S := ofBalSpec) rfl _ GaL.rfl ⟨V.iv, [y, fd, ob], by simp, rfl, ?_⟩
 simp -dsimp only [Vm.G, zA, zB, zC, zD, zE, zF, q21.1]
 refine call_one (S := balReadSpec) rfl _ GaL.rfl ⟨V, f, balK y fd ob, rfl, hV, ?_⟩
 simp -dsimp only [Vm.G, zA, zB, zC, zD, zE, zF, q21.1]
 exact hq
theorem addA_i64 {a b n : Int} (h : addA a b = some n) : I64 n := by
 unfold addA at h
 split at h
 · cases h; exact w64_range _
 · cases h
def balAdd (f : Fun) (key : List UInt8) (amt : Int) : Fun × Int := match addA (readOf f key) amt with
 | some n => (balSet f key n, 0)
 | none => (f, 9)
def balAddSpec : Vm.Spec := fun args h Q => ∃ (V : VId) (f : Fun) (y : Int) (x : Ln), args = [.ptr V.iv 0, .v (.int .i64 y), lnAv x] ∧ isView h V f ∧
 ∀ h', isView h' V (balAdd f (balK y x.fund x.obj) x.amt).1 → Same h h' [V.ic] → Q (.v (.int .i64 (balAdd f (balK y x.fund x.obj) x.amt).2)) h'
theorem does_balAdd : Does Tryz.prog 224 balAddSpec := by
 refine dA (good_cons does_ofBal (good_cons does_balRead (good_cons does_add (good_cons does_balWrite good_nil)))) Tryz.func224 rfl (by decide +kernel) ?_
 rintro args h Q ⟨V, f, y, x, rfl, hV, hq⟩
 refine ⟨by simp [Tryz.f224], ?_⟩
 simp only [lnAv, lnCells]
 simp -dsimp only [Vm.G, zA, zB, zC, zD, zE, zF, q224.1]
 refine bs_intro zr3 (by decide) (by decide) rfl rfl (by simp [solid, AV.cells]) ?_
 simp -dsimp only [Vm.G, zA, zB, zC, zD, zE, zF, q224.1]
 refine call_one (S := ofBalSpec) rfl _ GaL.rfl ⟨V.iv, [y, x.fund, x.obj], by simp, rfl, ?_⟩
 have hkl := balK_length y x.fund x.obj
 have ek : keyOf 66 [y, x.fund, x.obj] = balK y x.fund x.obj := rfl
 simp only [ek]
 generalize balK y x.fund x.obj = key at hkl hq ⊢
 unfold balAdd at hq
 simp -dsimp only [Vm.G, zA, zB, zC, zD, zE, zF, q224.1]
 refine draw_cont [5, 7] (.take 0 (.take 2 (.take 3 (.alt 1 (.alt 4 (.take 5 (.take 6 (.take 7 (.alt 8 (.alt 9 (.done) .stop) .stop)))) .stop) .stop)))) (fun s h' => h' = h ∧ s 7 = .eptr [.ptr V.iv 0, .sl 1 (key.map encB)] ∧ ((∃ n, addA (readOf f key) x.amt = some n ∧ s 8 = .v (.int .i64 n) ∧ s 9 = .v (.int .i64 0)) ∨ (addA (readOf f key) x.amt = none ∧ s 9 = .v (.int .i64 9)))) (by kernel_rfl) (by kernel_rfl) (by kernel_rfl) (by decide) ?_ ?_
 · simp -dsimp only [Vm.G, zA, zB, zC, zD, zE, zF, q224.1]
   refine call_one (S := balReadSpec) rfl _ GaL.rfl ⟨V, f, key, rfl, hV, ?_⟩
   simp -dsimp only [Vm.G, zA, zB, zC, zD, zE, zF, q224.1]
   refine call_one (S := addSpec) rfl _ GaL.rfl ⟨readOf f key, x.amt, rfl, fun n hn => ?_, fun hn => ?_⟩
   · simp -dsimp only [Vm.G, zA, zB, zC, zD, zE, zF, q224.1]
     exact .inl ⟨n, hn, rfl, trivial⟩
   · simp -dsimp only [Vm.G, zA, zB, zC, zD, zE, zF, q224.1]
     exact .inr ⟨hn, trivial⟩
 · rintro s h' ⟨rfl, e7, ⟨n, hn, e8, e9⟩ | ⟨hn, e9⟩⟩
   · rw [hn] at hq
     simp -dsimp only [Vm.G, zA, zB, zC, zD, zE, zF, q224.1, e7, e8, e9]
     refine call_one (S := balWriteSpec) rfl _ GaL.rfl ⟨V, f, key, n, rfl, addA_i64 hn, by omega, hV, fun h2 g1 g2 => ?_⟩
     simp -dsimp only [Vm.G, zA, zB, zC, zD, zE, zF, q224.1]
     exact hq h2 g1 g2
   · rw [hn] at hq
     simp -dsimp only [Vm.G, zA, zB, zC, zD, zE, zF, q224.1, e7, e9]
     exact hq h' hV (.refl _ _)
theorem lnEq (x y : Ln) : ((x.fund == y.fund) && ((x.obj == y.obj) && ((x.node == y.node) && (x.amt == y.amt)))) = true ↔ x = y := by
 obtain ⟨a, b, c, d⟩ := x
 obtain ⟨a', b', c', d'⟩ := y
 simp
def eqSpecLn : Vm.Spec := fun args h Q => ∃ l l' : List Ln, l.length ≤ 9223372036854775807 ∧ args = [.sl 4 (l.map lnAv), .sl 4 (l'.map lnAv)] ∧ ∀ b : Bool, (b = true ↔ l = l') → Q (.v (.bool b)) h
theorem does_eqLn : Does Tryz.prog 17 eqSpecLn := by
 refine dA good_nil Tryz.func17 rfl (by decide +kernel) ?_
 rintro args h Q ⟨l, l', hl, rfl, hq⟩
 refine ⟨by simp [Tryz.f17], ?_⟩
 simp -dsimp only [Vm.G, zA, zB, zC, zD, zE, zF, q17.1]
 by_cases hlen : l.length = l'.length
 · have c1 : ((l.length : Int) != l'.length) = false := by simp [hlen]
   simp -dsimp only [Vm.G, zA, zB, zC, zD, zE, zF, q17.1, c1]
   refine awp_loop (fun m s h' => ∃ i : Nat, i + m = l.length ∧ h' = h ∧ (∀ j (hj : j < l.length), j < i → l[j] = l'[j]'(by omega)) ∧ s = mk [(0, .sl 4 (l.map lnAv)), (1, .sl 4 (l'.map lnAv)), (12, .v (.int .i64 l.length)), (13, .v (.int .i64 i))])
     l.length _ (le_mk _ ?_) ⟨0, by omega, rfl, fun j _ hj => by omega, rfl⟩ ?_
   · simp only [Vm.D]
     try simp -dsimp only [Vm.G, zA, zB, zC, zD, zE, zF, q17.1]
     repeat' first | exact .refl _ | exact .nil _ _ _ (by decide) | refine ⟨?_, ?_⟩
   · rintro m s h' ⟨i, hi, rfl, hb, rfl⟩
     simp -dsimp only [Vm.G, zA, zB, zC, zD, zE, zF, q17.1]
     refine cond_intro (fun hcc => ?_) (fun hcc => ?_)
     · have hlt : i < l.length := by have := of_decide_eq_true hcc; omega
       have hlt' : i < l'.length := by omega
       obtain ⟨x, hx⟩ : ∃ x, l[i] = x := ⟨_, rfl⟩
       obtain ⟨y, hy⟩ : ∃ y, l'[i] = y := ⟨_, rfl⟩
       have hw := hwN i (by omega)
       simp -dsimp only [Vm.G, zA, zB, zC, zD, zE, zF, q17.1]
       refine draw_cont [] (.take 0 (.take 1 (.take 2 (.take 3 (.take 4 (.take 5 (.take 6 (.take 7 (.take 8 (.done)))))))))) (fun s hx => hx = h' ∧ (∃ b : Bool, (b = true ↔ x = y) ∧ s 24 = .v (.bool (!b))) ∧ s 0 = .sl 4 (l.map lnAv) ∧ s 1 = .sl 4 (l'.map lnAv) ∧ s 12 = .v (.int .i64 l.length) ∧ s 13 = .v (.int .i64 i)) (by kernel_rfl) (by kernel_rfl) (by kernel_rfl) (by decide) ?_ ?_
       · simp -dsimp only [Vm.G, zA, zB, zC, zD, zE, zF, q17.1]
         refine idx_map lnAv l i hlt ?_
         simp only [hx, lnAv, lnCells]
         simp -dsimp only [Vm.G, zA, zB, zC, zD, zE, zF, q17.1, AV.cells]
         refine idx_map lnAv l' i hlt' ?_
         simp only [hy, lnAv, lnCells]
         simp -dsimp only [Vm.G, zA, zB, zC, zD, zE, zF, q17.1, AV.cells]
         refine eq_agg fd45 rfl ?_
         simp -dsimp only [Vm.G, zA, zB, zC, zD, zE, zF, q17.1]
         refine ⟨⟨_, lnEq x y, rfl⟩, ?_⟩
         repeat' first | rfl | exact True.intro | refine And.intro ?_ ?_
       · rintro s hx2 ⟨rfl, ⟨b, hbe, e24⟩, e0, e1, e12, e13⟩
         cases b
         · have hne : ¬ l = l' := fun e => by
             have : x = y := by subst e; rw [← hx, ← hy]
             have := hbe.2 this
             cases this
           simp -dsimp only [Vm.G, zA, zB, zC, zD, zE, zF, q17.1, e24, e0, e1, e12, e13]
           exact hq false ⟨fun h => (by cases h), fun h => (hne h).elim⟩
         · have he := hbe.1 rfl
           simp -dsimp only [Vm.G, zA, zB, zC, zD, zE, zF, q17.1, e24, e0, e1, e12, e13]
           refine kept_intro ⟨l.length - (i + 1), by omega, _, le_mk [(0, .sl 4 (l.map lnAv)), (1, .sl 4 (l'.map lnAv)), (12, .v (.int .i64 l.length)), (13, .v (.int .i64 (i + 1 : Nat)))] ?_, i + 1, by omega, rfl, fun j hj hj2 => ?_, rfl⟩
           · simp only [Vm.D, hw, e24, e0, e1, e12, e13]
             try simp -dsimp only [Vm.G, zA, zB, zC, zD, zE, zF, q17.1, hw, e24, e0, e1, e12, e13]
             repeat' first | exact .refl _ | exact .nil _ _ _ (by decide) | refine ⟨?_, ?_⟩
           · by_cases hji : j = i
             · subst hji; rw [hx, hy]; exact he
             · exact hb j hj (by omega)
     · have hge : ¬ i < l.length := by have := of_decide_eq_false hcc; omega
       have he : l = l' := List.ext_getElem hlen fun j h1 h2 => hb j h1 (by omega)
       simp -dsimp only [Vm.G, zA, zB, zC, zD, zE, zF, q17.1]
       exact hq true ⟨fun _ => he, fun _ => rfl⟩
 · have c1 : ((l.length : Int) != l'.length) = true := by simp; omega
   simp -dsimp only [Vm.G, zA, zB, zC, zD, zE, zF, q17.1, c1]
   exact hq false ⟨fun h => (by cases h), fun h => (hlen (by rw [h])).elim⟩
theorem balSet_n (f : Fun) (key : List UInt8) (n : Int) : (balSet f key n).n ≤ f.n + 1 := by
 unfold balSet
 split
 · split
   · exact Nat.le_succ _
   · exact zNa _
 · exact zNa _
theorem balAdd_n (f : Fun) (key : List UInt8) (a : Int) : (balAdd f key a).1.n ≤ f.n + 1 := by
 unfold balAdd
 split
 · exact balSet_n f key _
 · exact Nat.le_succ _
end Go.Proofs.Lx
namespace Go.Proofs.Lx
open Go.Vm
attribute [local irreducible] awpArr awpBin awpMake awpAppend awpCvX awpStrOf awpBinX awpSlice awpBS awpStore awpAlloc awpCopy awpIndex awpDraw awpIdxX awpFa awpField awpLookup awpUpdate awpDelete awpClear awpRange awpNext awpEntry awpBuild awpClearS awpIdxL
def eqKVSpec : Vm.Spec := fun args h Q => ∃ x y : KV, args = [kvAv x, kvAv y] ∧ Q (.v (.bool (x.1 == y.1 && x.2 == y.2))) h
theorem does_eqKV : Does Tryz.prog 153 eqKVSpec := by
 refine dA (good_cons does_equal good_nil) Tryz.func153 rfl (by decide +kernel) ?_
 rintro args h Q ⟨⟨k, v⟩, ⟨k2, v2⟩, rfl, hq⟩
 refine ⟨by simp [Tryz.f153], ?_⟩
 simp only [kvAv]
 simp -dsimp only [Vm.G, zA, zB, zC, zD, zE, zF, fo124_0, of107]
 refine call_one (S := equalSpec) rfl _ GaL.rfl ⟨k, k2, rfl, ?_⟩
 simp -dsimp only [Vm.E, zA, zB, zC, zD, zE, zG, zH]
 cases c1 : (k == k2)
 · simp only [c1] at hq
   simp -dsimp only [Vm.G, zA, zB, zC, zD, zE, zF, Tryz.results153]
   exact hq
 · simp only [c1] at hq
   simp -dsimp only [Vm.G, zA, zB, zC, zD, zE, zF, fo124_1, of107]
   refine call_one (S := equalSpec) rfl _ GaL.rfl ⟨v, v2, rfl, ?_⟩
   simp -dsimp only [Vm.E, zA, zB, zC, zD, zE, zG, zH, Tryz.results153]
   exact hq
def eqFSpec : Vm.Spec := fun args h Q => ∃ l l' : List KV, l.length ≤ 9223372036854775807 ∧ args = [.sl 2 (l.map kvAv), .sl 2 (l'.map kvAv), .clo 153 []] ∧ Q (.v (.bool (decide (l = l')))) h
theorem does_eqF : Does Tryz.prog 152 eqFSpec := by
 refine dA (good_cons does_eqKV good_nil) Tryz.func152 rfl (by decide +kernel) ?_
 rintro args h Q ⟨l, l', hl, rfl, hq⟩
 refine ⟨by simp [Tryz.f152], ?_⟩
 simp -dsimp only [Vm.E, zA, zB, zC, zD, zE, zG, zH, Tryz.underlying76]
 by_cases hlen : l.length = l'.length
 · have c1 : ((l.length : Int) != l'.length) = false := by simp [hlen]
   simp -dsimp only [Vm.E, zA, zB, zC, zD, zE, zG, zH, c1, Tryz.underlying76]
   refine awp_loop (fun m s h' => ∃ i : Nat, i + m = l.length ∧ h' = h ∧ (∀ j (hj : j < l.length), j < i → l[j] = l'[j]'(by omega)) ∧ s = mk [(1, .sl 2 (l'.map kvAv)), (2, .clo 153 []), (15, .sl 2 (l.map kvAv)), (16, .v (.int .i64 l.length)), (17, .v (.int .i64 i))])
     l.length _ (le_mk _ ?_) ⟨0, by omega, rfl, fun j _ hj => by omega, rfl⟩ ?_
   · simp only [Vm.D]
     simp -dsimp only [Vm.E, zA, zB, zC, zD, zE, zG, zH]
     exact ⟨.refl _, .refl _, .refl _, .refl _, .refl _⟩
   · rintro m s h' ⟨i, hi, rfl, hb, rfl⟩
     simp -dsimp only [Vm.E, zA, zB, zC, zD, zE, zG, zH]
     refine cond_intro (fun hcc => ?_) (fun hcc => ?_)
     · have hlt : i < l.length := by have := of_decide_eq_true hcc; omega
       have hlt' : i < l'.length := by omega
       obtain ⟨x, hx⟩ : ∃ x, l[i] = x := ⟨_, rfl⟩
       obtain ⟨y, hy⟩ : ∃ y, l'[i] = y := ⟨_, rfl⟩
       have hw := hwN i (by omega)
       simp -dsimp only [Vm.E, zA, zB, zC, zD, zE, zG, zH, es76, as76]
       refine idx_map kvAv l i hlt ?_
       simp only [hx, kvAv]
       simp -dsimp only [Vm.G, zA, zB, zC, zD, zE, zF, AV.cells, of124, al124, sz124, es76, as76]
       refine idx_map kvAv l' i hlt' ?_
       simp only [hy, kvAv]
       simp -dsimp only [Vm.G, zA, zB, zC, zD, zE, zF, AV.cells, of124, al124, sz124]
       refine call_one (S := eqKVSpec) rfl _ GaL.rfl ⟨x, y, rfl, ?_⟩
       cases he : (x.1 == y.1 && x.2 == y.2)
       · have hne : ¬ l = l' := fun e => by
           subst e
           rw [← hx, ← hy] at he
           simp at he
         rw [decide_eq_false hne] at hq
         simp -dsimp only [Vm.E, zA, zB, zC, zD, zE, zG, zH, Tryz.results152]
         exact hq
       · have hxy : x = y := by
           simp only [Bool.and_eq_true, beq_iff_eq] at he
           exact Prod.ext he.1 he.2
         simp -dsimp only [Vm.E, zA, zB, zC, zD, zE, zG, zH, hw]
         refine kept_intro ⟨l.length - (i + 1), by omega, _, le_mk [(1, .sl 2 (l'.map kvAv)), (2, .clo 153 []), (15, .sl 2 (l.map kvAv)), (16, .v (.int .i64 l.length)), (17, .v (.int .i64 (i + 1 : Nat)))] ?_, i + 1, by omega, rfl, fun j hj hj2 => ?_, rfl⟩
         · simp only [Vm.D]
           simp -dsimp only [Vm.E, zA, zB, zC, zD, zE, zG, zH]
           exact ⟨.refl _, .refl _, .refl _, .refl _, .refl _⟩
         · by_cases hji : j = i
           · subst hji; rw [hx, hy]; exact hxy
           · exact hb j hj (by omega)
     · have hge : ¬ i < l.length := by have := of_decide_eq_false hcc; omega
       have he : l = l' := List.ext_getElem hlen fun j h1 h2 => hb j h1 (by omega)
       rw [decide_eq_true he] at hq
       simp -dsimp only [Vm.E, zA, zB, zC, zD, zE, zG, zH, Tryz.results152]
       exact hq
 · have c1 : ((l.length : Int) != l'.length) = true := by simp; omega
   rw [decide_eq_false fun e => hlen (by rw [e])] at hq
   simp -dsimp only [Vm.E, zA, zB, zC, zD, zE, zG, zH, c1, Tryz.results152]
   exact hq
def pairsSpec : Vm.Spec := fun args h Q => ∃ l l' : List KV, l.length ≤ 9223372036854775807 ∧ args = [.sl 2 (l.map kvAv), .sl 2 (l'.map kvAv)] ∧ Q (.v (.bool (decide (l = l')))) h
theorem does_pairs : Does Tryz.prog 99 pairsSpec := by
 refine dA (good_cons does_eqF good_nil) Tryz.func99 rfl (by decide +kernel) ?_
 rintro args h Q ⟨l, l', hl, rfl, hq⟩
 refine ⟨by simp [Tryz.f99], ?_⟩
 simp -dsimp only [Vm.E, zA, zB, zC, zD, zE, zG, zH]
 refine call_one (S := eqFSpec) rfl _ GaL.rfl ⟨l, l', hl, rfl, ?_⟩
 simp -dsimp only [Vm.E, zA, zB, zC, zD, zE, zG, zH, Tryz.results99]
 exact hq
end Go.Proofs.Lx
namespace Go.Proofs.Lx
open Go.Vm
attribute [local irreducible] awpArr awpBin awpMake awpAppend awpCvX awpStrOf awpBinX awpSlice awpBS awpStore awpAlloc awpCopy awpIndex awpDraw awpIdxX awpFa awpField awpLookup awpUpdate awpDelete awpClear awpRange awpNext awpEntry awpBuild awpClearS awpIdxL awpTree
theorem num4_cons (t : UInt8) (r : List UInt8) (i : Nat) (h : 4 * i + 4 ≤ r.length) : getRes (t :: r) ((1 + 4 * i : Nat) : Int) 4 = [.v (.int .i64 (num4 r i)), .v (.int .i64 0)] := by
 unfold getRes num4
 rw [if_neg (by simp [sized]; omega), if_neg (by simp only [zJa]; omega), zWa]
 rw [show 1 + 4 * i = (4 * i) + 1 by omega, List.drop_succ_cons]
 rfl
theorem does_rSplit : Does Tryz.prog 277 splitSpec := by
 refine does_of_awpO 1 (good_cons does_refGet good_nil) Tryz.func277 rfl (by decide +kernel) (by decide +kernel) ?_
 rintro args h Q ⟨b, hl, rfl, hq0, hq⟩
 refine ⟨by simp [Tryz.f277], ?_⟩
 rw [awpFuncO_some (by rfl)]
 simp -dsimp only [Vm.E, zA, zB, zC, zD, zE, zG, zH, Tryz.underlying107]
 cases b with
 | nil =>
   have c1 : decide (((0 : Nat) : Int) < 1) = true := rfl
   simp -dsimp only [Vm.G, zA, zB, zC, zD, zE, zF, q277.1, c1]
   exact hq0 rfl
 | cons t r =>
   have c1 : decide (((r.length + 1 : Nat) : Int) < 1) = false := decide_eq_false (by omega)
   simp -dsimp only [Vm.G, zA, zB, zC, zD, zE, zF, q277.1, c1]
   unfold splitOf at hq0 hq
   by_cases d2 : r.length ≤ 28
   · have c2 : decide (((r.length + 1 : Nat) : Int) > 29) = false := decide_eq_false (by omega)
     simp -dsimp only [Vm.G, zA, zB, zC, zD, zE, zF, q277.1, c2]
     refine rem_intro (by decide) ?_
     have e2 : ((r.length + 1 : Nat) : Int).tmod 4 = (((r.length + 1) % 4 : Nat) : Int) := by rw [Int.tmod_eq_emod_of_nonneg (by omega)]; omega
     simp only [e2]
     by_cases d1 : r.length % 4 = 0
     · have c3 : ((((r.length + 1) % 4 : Nat) : Int) != 1) = false := by
         have : (r.length + 1) % 4 = 1 := by omega
         rw [this]; rfl
       have hq' := hq t (numsK r (r.length / 4)) (if_pos ⟨d1, d2⟩)
       clear hq hq0
       obtain ⟨k, hk⟩ : ∃ k, r.length = 4 * k := ⟨r.length / 4, by omega⟩
       rw [show r.length / 4 = k by omega] at hq'
       simp -dsimp only [Vm.G, zA, zB, zC, zD, zE, zF, q277.1, c3]
       refine awp_loop (fun m s h' => ∃ i : Nat, i + m = k ∧ h' = h ∧ s = mk [(0, .sl 1 ((t :: r).map encB)), (5, .own true 3 1 ((numsK r i).map encI)), (6, .v (.int .i64 (1 + 4 * i : Nat)))])
         k _ (le_mk _ ?_) ⟨0, by omega, rfl, rfl⟩ ?_
       · simp only [Vm.D]
         simp -dsimp only [Vm.E, zA, zB, zC, zD, zE, zG, zH]
         exact ⟨.refl _, .nil _ _ _ (by decide), .refl _⟩
       · rintro m s h' ⟨i, hi, rfl, rfl⟩
         simp -dsimp only [Vm.E, zA, zB, zC, zD, zE, zG, zH, Tryz.underlying107]
         refine cond_intro (fun hc => ?_) (fun hc => ?_)
         · have hlt : i < k := by have := of_decide_eq_true hc; simp only [zJa, zIa] at this; omega
           simp -dsimp only [Vm.E, zA, zB, zC, zD, zE, zG, zH]
           refine call_one (S := getSpec) rfl _ GaL.rfl ⟨t :: r, ((1 + 4 * i : Nat) : Int), 4, hl, by omega, rfl, ?_⟩
           simp only [num4_cons t r i (by omega)]
           simp -dsimp only [Vm.E, zA, zB, zC, zD, zE, zG, zH, es162]
           refine bs_intro zr3 (by decide) (by decide) rfl rfl (by simp [solid, AV.cells]) ?_
           simp -dsimp only [Vm.E, zA, zB, zC, zD, zE, zG, zH, append_own ei162]
           refine app_sl Tryz.underlying162 (by simp [AV.cells]) (by simp [numsK]; omega) ?_
           simp -dsimp only [Vm.E, zA, zB, zC, zD, zE, zG, zH]
           refine kept_intro ⟨k - (i + 1), by omega, _, le_mk [(0, .sl 1 ((t :: r).map encB)), (5, .own true 3 1 ((numsK r (i + 1)).map encI)), (6, .v (.int .i64 (1 + 4 * (i + 1) : Nat)))] ?_, i + 1, by omega, rfl, rfl⟩
           have ew : IntKind.i64.wrap (((1 + 4 * i : Nat) : Int) + 4) = ((1 + 4 * (i + 1) : Nat) : Int) := by rw [wrap_i64 (by omega) (by omega)]; omega
           have en : (numsK r i).map encI ++ [AV.v (.int .i64 (num4 r i))] = (numsK r (i + 1)).map encI := by simp [numsK, List.range_succ, encI]
           simp only [Vm.D]
           simp -dsimp only [Vm.E, zA, zB, zC, zD, zE, zG, zH, ew, en]
           exact ⟨.refl _, .refl _, .refl _⟩
         · have hge : ¬ i < k := by have := of_decide_eq_false hc; simp only [zJa, zIa] at this; omega
           obtain rfl : i = k := by omega
           simp -dsimp only [Vm.E, zA, zB, zC, zD, zE, zG, zH, es107, as107]
           refine idx_bytes (t :: r) 0 (by simp) ?_
           simp -dsimp only [Vm.E, zA, zB, zC, zD, zE, zG, zH, of5, Tryz.results277]
           exact hq'
     · have c3 : ((((r.length + 1) % 4 : Nat) : Int) != 1) = true := by simp; omega
       simp -dsimp only [Vm.G, zA, zB, zC, zD, zE, zF, q277.1, c3]
       exact hq0 (if_neg (by omega))
   · have c2 : decide (((r.length + 1 : Nat) : Int) > 29) = true := decide_eq_true (by omega)
     simp -dsimp only [Vm.G, zA, zB, zC, zD, zE, zF, q277.1, c2]
     exact hq0 (if_neg (by omega))
def ofOf (key : List UInt8) (tag : UInt8) (many : Int) : Option (List Int) := match splitOf key with
 | some (t, l) => if t = tag ∧ (l.length : Int) = many then some l else none
 | none => none
def rOfSpec : Vm.Spec := fun args h Q => ∃ (b : List UInt8) (tag : UInt8) (many : Int), b.length ≤ 4611686018427387904 ∧ args = [.sl 1 (b.map encB), .v (.int .u8 tag.toNat), .v (.int .i64 many)] ∧
 (ofOf b tag many = none → Q (.tup [.v (.slice none 0 0), .v (.bool false)]) h) ∧ (∀ l, ofOf b tag many = some l → Q (.otup 0 true 3 1 (l.map encI) [.any, .v (.bool true)]) h)
theorem does_rOf : Does Tryz.prog 214 rOfSpec := by
 refine does_of_awpO 0 (good_cons does_rSplit good_nil) Tryz.func214 rfl (by decide +kernel) (by decide +kernel) ?_
 rintro args h Q ⟨b, tag, many, hl, rfl, hq0, hq⟩
 refine ⟨by simp [Tryz.f214], ?_⟩
 rw [awpFuncO_some (by rfl)]
 unfold ofOf at hq0 hq
 simp -dsimp only [Vm.E, zA, zB, zC, zD, zE, zG, zH]
 refine call_one (S := splitSpec) rfl _ GaL.rfl ⟨b, hl, rfl, fun hs => ?_, fun t l hs => ?_⟩
 · rw [hs] at hq0
   unfold noKey
   simp -dsimp only [Vm.E, zA, zB, zC, zD, zE, zG, zH, Tryz.results214]
   exact hq0 rfl
 · rw [hs] at hq0 hq
   simp -dsimp only [Vm.E, zA, zB, zC, zD, zE, zG, zH]
   by_cases d1 : t = tag
   · subst d1
     simp -dsimp only [Vm.E, zA, zB, zC, zD, zE, zG, zH, bne_self_eq_false, Tryz.underlying162]
     by_cases d2 : (l.length : Int) = many
     · have c2 : ((l.length : Int) != many) = false := by simp [d2]
       simp -dsimp only [Vm.G, zA, zB, zC, zD, zE, zF, q214.1, c2]
       exact hq l (if_pos ⟨rfl, d2⟩)
     · have c2 : ((l.length : Int) != many) = true := by simp [d2]
       simp -dsimp only [Vm.G, zA, zB, zC, zD, zE, zF, q214.1, c2]
       exact hq0 (if_neg fun hc => d2 hc.2)
   · have c1 : ((t.toNat : Int) != tag.toNat) = true := by
       simp only [bne_iff_ne, ne_eq]
       exact fun e => d1 (UInt8.toNat_inj.1 (by omega))
     simp -dsimp only [Vm.G, zA, zB, zC, zD, zE, zF, q214.1, c1]
     exact hq0 (if_neg fun hc => d1 hc.1)
end Go.Proofs.Lx
namespace Go.Proofs.Lx
open Go.Vm
attribute [local irreducible] awpArr awpBin awpMake awpAppend awpCvX awpStrOf awpBinX awpSlice awpBS awpStore awpAlloc awpCopy awpIndex awpDraw awpIdxX awpFa awpField awpLookup awpUpdate awpDelete awpClear awpRange awpNext awpEntry awpBuild awpClearS awpIdxL awpTree appB awpIdxO eltA treeA
def rPairSpec : Vm.Spec := fun args h Q => ∃ (tag : UInt8) (kl vl : List Int), kl.length ≤ 4611686018427387904 ∧ vl.length ≤ 4611686018427387904 ∧ (∀ n ∈ vl, I64 n) ∧ args = [.v (.int .u8 tag.toNat), .sl 1 (kl.map encI), .sl 1 (vl.map encI)] ∧
 Q (.agg [.sl 1 ((keyOf tag kl).map encB), .sl 1 ((packOf vl).map encB)]) h
theorem does_rPair : Does Tryz.prog 119 rPairSpec := by
 refine dA (good_cons does_rKey (good_cons does_rPack good_nil)) Tryz.func119 rfl (by decide +kernel) ?_
 rintro args h Q ⟨tag, kl, vl, hk, hv, hi, rfl, hq⟩
 refine ⟨by simp [Tryz.f119], ?_⟩
 simp -dsimp only [Vm.G, zA, zB, zC, zD, zE, zF, q119.1]
 refine call_one (S := keySpec) rfl _ GaL.rfl ⟨tag, kl, by omega, rfl, ?_⟩
 simp -dsimp only [Vm.G, zA, zB, zC, zD, zE, zF, q119.1]
 refine call_one (S := packSpec) rfl _ GaL.rfl ⟨vl, by omega, hi, rfl, ?_⟩
 simp -dsimp only [Vm.G, zA, zB, zC, zD, zE, zF, q119.1]
 exact hq
theorem does_rNode : Does Tryz.prog 65 nodeSpec := by
 refine dA (good_cons does_rPair good_nil) Tryz.func65 rfl (by decide +kernel) ?_
 rintro args h Q ⟨n, ⟨o1, o2, o3, o4, o5, o6, o7, o8, o9, o10, o11⟩, rfl, hq⟩
 refine ⟨by simp [Tryz.f65], ?_⟩
 simp only [ndCells]
 cases ha : n.abs
 · simp -dsimp only [Vm.G, zA, zB, zC, zD, zE, zF, q65.1]
   refine bs_intro zr3 (by decide) (by decide) rfl rfl (by simp [solid, AV.cells]) ?_
   simp -dsimp only [Vm.G, zA, zB, zC, zD, zE, zF, q65.1]
   refine bs_intro zr3 (by decide) (by decide) rfl rfl (by simp [solid, AV.cells]) ?_
   simp -dsimp only [Vm.G, zA, zB, zC, zD, zE, zF, q65.1]
   refine call_one (S := rPairSpec) rfl _ GaL.rfl ⟨78, [n.year, n.id], [n.parent, n.fund, n.obj, 0, n.limit, n.pre, n.enc, n.exp, n.lapsed, n.carried], by simp, by simp, ?_, rfl, ?_⟩
   · intro m hm
     simp only [zXa, zUa, or_false] at hm
     have z0 : I64 0 := by unfold I64; omega
     have z1 : I64 1 := by unfold I64; omega
     rcases hm with rfl | rfl | rfl | rfl | rfl | rfl | rfl | rfl | rfl | rfl <;> assumption
   · simp -dsimp only [Vm.G, zA, zB, zC, zD, zE, zF, q65.1]
     have e : packOf (ndVal n) = packOf [n.parent, n.fund, n.obj, 0, n.limit, n.pre, n.enc, n.exp, n.lapsed, n.carried] := by unfold ndVal; rw [ha]; rfl
     rw [e] at hq
     exact hq
 · simp -dsimp only [Vm.G, zA, zB, zC, zD, zE, zF, q65.1]
   refine bs_intro zr3 (by decide) (by decide) rfl rfl (by simp [solid, AV.cells]) ?_
   simp -dsimp only [Vm.G, zA, zB, zC, zD, zE, zF, q65.1]
   refine bs_intro zr3 (by decide) (by decide) rfl rfl (by simp [solid, AV.cells]) ?_
   simp -dsimp only [Vm.G, zA, zB, zC, zD, zE, zF, q65.1]
   refine call_one (S := rPairSpec) rfl _ GaL.rfl ⟨78, [n.year, n.id], [n.parent, n.fund, n.obj, 1, n.limit, n.pre, n.enc, n.exp, n.lapsed, n.carried], by simp, by simp, ?_, rfl, ?_⟩
   · intro m hm
     simp only [zXa, zUa, or_false] at hm
     have z0 : I64 0 := by unfold I64; omega
     have z1 : I64 1 := by unfold I64; omega
     rcases hm with rfl | rfl | rfl | rfl | rfl | rfl | rfl | rfl | rfl | rfl <;> assumption
   · simp -dsimp only [Vm.G, zA, zB, zC, zD, zE, zF, q65.1]
     have e : packOf (ndVal n) = packOf [n.parent, n.fund, n.obj, 1, n.limit, n.pre, n.enc, n.exp, n.lapsed, n.carried] := by unfold ndVal; rw [ha]; rfl
     rw [e] at hq
     exact hq
def bothOf (tag : UInt8) (k v : Nat) (key val : List UInt8) : Option (List Int × List Int) :=
 match ofOf key tag k with
 | some l => if val.length = 8 * v then some (l, numsOf val v) else none
 | none => none
theorem both_nums (tag : UInt8) (k v : Nat) (key val : List UInt8) : numsPair tag k v key val = (bothOf tag k v key val).map fun p => p.1 ++ p.2 := by
 unfold numsPair bothOf ofOf
 cases splitOf key with
 | none => rfl
 | some p =>
   obtain ⟨t, l⟩ := p
   simp only
   by_cases h1 : t = tag
   · by_cases h2 : l.length = k
     · have h2' : (l.length : Int) = k := by omega
       by_cases h3 : val.length = 8 * v
       · simp [h1, h2, h3]
       · simp [h1, h2, h3]
     · have h2' : ¬ (l.length : Int) = k := by omega
       simp [h1, h2, h2']
   · simp [h1]
def rBothSpec : Vm.Spec := fun args h Q => ∃ (tag : UInt8) (k v : Nat) (key val : List UInt8), v ≤ 15 ∧ k ≤ 15 ∧ key.length ≤ 1073741824 ∧ val.length ≤ 1073741824 ∧ args = [.agg [.sl 1 (key.map encB), .sl 1 (val.map encB)], .v (.int .u8 tag.toNat), .v (.int .i64 k), .v (.int .i64 v)] ∧
 (∀ p, bothOf tag k v key val = some p → Q (.tup [.sl 1 (p.1.map encI), .sl 1 (p.2.map encI), .v (.bool true)]) h) ∧ (bothOf tag k v key val = none → ∀ a b : List Int, Q (.tup [.sl 1 (a.map encI), .sl 1 (b.map encI), .v (.bool false)]) h)
def isI (x : AV) (l : List Int) : Prop := x = .sl 1 (l.map encI) ∨ (l = [] ∧ x = .v (.slice none 0 0))
theorem isI.ga {x : AV} {l : List Int} (h : isI x l) : Ga x (.sl 1 (l.map encI)) := by
 rcases h with rfl | ⟨rfl, rfl⟩
 · exact .refl _
 · exact .nil 1
def rBoth0 : Vm.Spec := fun args h Q => ∃ (tag : UInt8) (k v : Nat) (key val : List UInt8), v ≤ 15 ∧ k ≤ 15 ∧ key.length ≤ 1073741824 ∧ val.length ≤ 1073741824 ∧ args = [.agg [.sl 1 (key.map encB), .sl 1 (val.map encB)], .v (.int .u8 tag.toNat), .v (.int .i64 k), .v (.int .i64 v)] ∧
 (∀ p, bothOf tag k v key val = some p → Q (.tup [.sl 1 (p.1.map encI), .sl 1 (p.2.map encI), .v (.bool true)]) h) ∧ (bothOf tag k v key val = none → ∀ (a b : List Int) (x y : AV), isI x a → isI y b → Q (.tup [x, y, .v (.bool false)]) h)
theorem does_rBoth0 : Does Tryz.prog 168 rBoth0 := by
 refine dA (good_cons does_rOf (good_cons does_rUnpack good_nil)) Tryz.func168 rfl (by decide +kernel) ?_
 rintro args h Q ⟨tag, k, v, key, val, hv, hk, hkl, hvl, rfl, hq1, hq2⟩
 refine ⟨by simp [Tryz.f168], ?_⟩
 unfold bothOf at hq1 hq2
 simp -dsimp only [Vm.G, zA, zB, zC, zD, zE, zF, q168.1]
 refine call_one (S := rOfSpec) rfl _ GaL.rfl ⟨key, tag, k, by omega, rfl, fun hs => ?_, fun l hs => ?_⟩
 · rw [hs] at hq2
   simp -dsimp only [Vm.G, zA, zB, zC, zD, zE, zF, q168.1]
   refine call_one (S := unpackSpec) rfl _ GaL.rfl ⟨val, v, by omega, by unfold I64; omega, rfl, ?_⟩
   unfold unpackRes
   rw [if_neg (by omega)]
   by_cases h3 : val.length = 8 * v
   · rw [if_neg (by omega)]
     simp -dsimp only [Vm.G, zA, zB, zC, zD, zE, zF, q168.1]
     exact hq2 rfl [] (numsOf val (v : Int).toNat) _ _ (.inr ⟨rfl, rfl⟩) (.inl rfl)
   · rw [if_pos (by omega)]
     simp -dsimp only [Vm.G, zA, zB, zC, zD, zE, zF, q168.1]
     exact hq2 rfl [] [] _ _ (.inr ⟨rfl, rfl⟩) (.inr ⟨rfl, rfl⟩)
 · rw [hs] at hq1 hq2
   simp -dsimp only [Vm.G, zA, zB, zC, zD, zE, zF, q168.1]
   refine call_one (S := unpackSpec) rfl _ GaL.rfl ⟨val, v, by omega, by unfold I64; omega, rfl, ?_⟩
   unfold unpackRes
   rw [if_neg (by omega)]
   by_cases h3 : val.length = 8 * v
   · rw [if_neg (by omega)]
     simp only [if_pos h3] at hq1
     simp -dsimp only [Vm.G, zA, zB, zC, zD, zE, zF, q168.1]
     have := hq1 _ rfl
     simpa using this
   · rw [if_pos (by omega)]
     simp only [if_neg h3] at hq2
     simp -dsimp only [Vm.G, zA, zB, zC, zD, zE, zF, q168.1]
     exact hq2 trivial l [] _ _ (.inl rfl) (.inr ⟨rfl, rfl⟩)
theorem does_rBoth : Does Tryz.prog 168 rBothSpec := by
 refine (Does.weak does_rBoth0).imp ?_
 rintro args h Q ⟨tag, k, v, key, val, hv, hk, hkl, hvl, rfl, hq1, hq2⟩
 exact ⟨tag, k, v, key, val, hv, hk, hkl, hvl, rfl, fun p hp => ⟨_, .refl _, hq1 p hp⟩, fun hn a b x y hx hy => ⟨_, .tup (.cons hx.ga (.cons hy.ga GaL.rfl)), hq2 hn a b⟩⟩
theorem both_length {tag : UInt8} {k v : Nat} {key val : List UInt8} {p : List Int × List Int} (h : bothOf tag k v key val = some p) : p.1.length = k ∧ p.2.length = v := by
 unfold bothOf ofOf at h
 split at h
 · rename_i l hl
   split at hl
   · split at hl
     · rename_i hc
       cases hl
       split at h
       · cases h; exact ⟨by show l.length = k; omega, by simp [numsOf]⟩
       · cases h
     · cases hl
   · cases hl
 · cases h
def rNodeOfSpec : Vm.Spec := fun args h Q => ∃ key val : List UInt8, key.length ≤ 1073741824 ∧ val.length ≤ 1073741824 ∧ args = [.agg [.sl 1 (key.map encB), .sl 1 (val.map encB)]] ∧
 (∀ n, nodeOf key val = some n → Q (.tup [.agg (ndCells n), .v (.bool true)]) h) ∧ (nodeOf key val = none → Q (.tup [.agg (ndCells .zero), .v (.bool false)]) h)
theorem does_rNodeOf : Does Tryz.prog 106 rNodeOfSpec := by
 refine dA (good_cons does_rBoth good_nil) Tryz.func106 rfl (by decide +kernel) ?_
 rintro args h Q ⟨key, val, hk, hv, rfl, hq1, hq2⟩
 refine ⟨by simp [Tryz.f106], ?_⟩
 unfold nodeOf at hq1 hq2
 rw [both_nums] at hq1 hq2
 simp only [ndCells, Nd.zero] at hq2
 simp -dsimp only [Vm.G, zA, zB, zC, zD, zE, zF, q106.1]
 refine call_one (S := rBothSpec) rfl _ GaL.rfl ⟨78, 2, 10, key, val, by omega, by omega, hk, hv, rfl, fun p hp => ?_, fun hp a b => ?_⟩
 · have hlen := both_length hp
   obtain ⟨kl, vl⟩ := p
   obtain ⟨hl1, hl2⟩ := hlen
   match kl, hl1 with
   | [k0, k1], _ =>
   match vl, hl2 with
   | [b0, b1, b2, b3, b4, b5, b6, b7, b8, b9], _ =>
   rw [hp] at hq1
   have hq1' := hq1 _ rfl
   clear hq1 hq2 hp
   simp -dsimp only [Vm.G, zA, zB, zC, zD, zE, zF, q106.1]
   refine draw_cont [] (.take 0 (.take 1 (.take 2 (.take 3 (.take 4 (.take 5 (.take 6 (.take 7 (.take 8 (.take 9 (.take 10 (.take 11 (.take 12 (.take 13 (.take 14 (.take 15 (.take 16 (.take 17 (.take 18 (.take 19 (.take 20 (.take 21 (.take 22 (.take 23 (.take 24 (.take 25 (.take 26 (.take 27 (.take 28 (.take 29 (.take 30 (.take 31 (.take 32 (.take 33 (.take 34 (.take 35 (.take 36 (.alt 37 (.alt 38 (.alt 39 (.done) .stop) .stop) .stop)))))))))))))))))))))))))))))))))))))) (fun s h2 => h2 = h ∧ s 2 = .box (ndCells ⟨k0, k1, b0, b1, b2, b3 != 0, b4, b5, b6, b7, b8, b9⟩) ∧ s 3 = .v (.bool true)) (by kernel_rfl) (by kernel_rfl) (by kernel_rfl) (by decide) ?_ ?_
   · simp -dsimp only [Vm.G, zA, zB, zC, zD, zE, zF, q106.1, idx_lit, idxE_some, Int.reduceToNat, Int.reduceLE, decide_true, eq_self, encI]
     repeat' first | rfl | exact True.intro | refine And.intro ?_ ?_
   · rintro s h2 ⟨rfl, e2, e3⟩
     simp only [ndCells] at e2
     simp -dsimp only [Vm.G, zA, zB, zC, zD, zE, zF, q106.1, e2, e3]
     exact hq1'
 · rw [hp] at hq2
   simp -dsimp only [Vm.G, zA, zB, zC, zD, zE, zF, q106.1]
   exact hq2 rfl
def rtPutSpec : Vm.Spec := fun args h Q => ∃ (R : RId) (f : Fun) (n : Nd), args = [.ptr R.iv 0, .agg (ndCells n)] ∧ n.ok ∧ isRef h R f ∧ f.n ≤ 536870912 ∧ ∀ h', isRef h' R (upd f (ndK n) (some (ndV n))) → Same h h' (rFoot R) → Q (.v (.int .i64 0)) h'
theorem does_rtPut : Does Tryz.prog 27 rtPutSpec := by
 refine dA (good_cons does_rNode (good_cons does_rPut good_nil)) Tryz.func27 rfl (by decide +kernel) ?_
 rintro args h Q ⟨R, f, n, rfl, hn, hR, hfn, hq⟩
 refine ⟨by simp [Tryz.f27], ?_⟩
 simp only [ndCells]
 simp -dsimp only [Vm.G, zA, zB, zC, zD, zE, zF, q27.1]
 refine call_one (S := nodeSpec) rfl _ GaL.rfl ⟨n, hn, rfl, ?_⟩
 simp -dsimp only [Vm.G, zA, zB, zC, zD, zE, zF, q27.1]
 refine call_one (S := rPutSpec) rfl _ GaL.rfl ⟨R, f, ndK n, ndV n, rfl, hR, hfn, fun _ h' g1 g2 => ?_, fun hc => by rw [right_nd] at hc; cases hc⟩
 simp -dsimp only [Vm.G, zA, zB, zC, zD, zE, zF, q27.1]
 exact hq h' g1 g2
theorem nodeOf_nil (key : List UInt8) : nodeOf key [] = none := by
 unfold nodeOf numsPair
 cases splitOf key with
 | none => rfl
 | some p => simp
def rtGetSpec : Vm.Spec := fun args h Q => ∃ (R : RId) (f : Fun) (year id : Int), args = [.ptr R.iv 0, .v (.int .i64 year), .v (.int .i64 id)] ∧ isRef h R f ∧ f.n ≤ 536870912 ∧
 (∀ n, nodeAt f year id = some n → Q (.tup [.agg (ndCells n), .v (.bool true)]) h) ∧ (nodeAt f year id = none → Q (.tup [.agg (ndCells .zero), .v (.bool false)]) h)
theorem does_rtGet : Does Tryz.prog 53 rtGetSpec := by
 refine dA (good_cons does_rKey (good_cons does_rGet (good_cons does_rNodeOf good_nil))) Tryz.func53 rfl (by decide +kernel) ?_
 rintro args h Q ⟨R, f, year, id, rfl, hR, hfn, hq1, hq2⟩
 refine ⟨by simp [Tryz.f53], ?_⟩
 unfold nodeAt at hq1 hq2
 simp only [ndCells, Nd.zero] at hq2
 simp -dsimp only [Vm.G, zA, zB, zC, zD, zE, zF, q53.1]
 refine bs_intro zr3 (by decide) (by decide) rfl rfl (by simp [solid, AV.cells]) ?_
 simp -dsimp only [Vm.G, zA, zB, zC, zD, zE, zF, q53.1]
 refine call_one (S := keySpec) rfl _ GaL.rfl ⟨78, [year, id], by simp, rfl, ?_⟩
 have hk := key2_length 78 year id
 generalize keyOf 78 [year, id] = key at hk hq1 hq2 ⊢
 simp -dsimp only [Vm.G, zA, zB, zC, zD, zE, zF, q53.1]
 refine call_one (S := rGetSpec) rfl _ GaL.rfl ⟨R, f, key, rfl, hR, hfn, fun val hf => ?_, fun hf => ?_⟩
 · have hvl := (hR.len hf).2
   rw [hf] at hq1 hq2
   simp -dsimp only [Vm.G, zA, zB, zC, zD, zE, zF, q53.1]
   refine call_one (S := rNodeOfSpec) rfl _ GaL.rfl ⟨key, val, by omega, by omega, rfl, fun n hn => ?_, fun hn => ?_⟩
   · have hq1 : ∀ m, (if n.year = year ∧ n.id = id then some n else none) = some m → Q (.tup [.agg (ndCells m), .v (.bool true)]) h := fun m hm => hq1 m (by simp only [hn]; exact hm)
     have hq2 := fun hm : (if n.year = year ∧ n.id = id then some n else none) = none => hq2 (by simp only [hn]; exact hm)
     simp only [ndCells] at hq1
     simp only [ndCells]
     simp -dsimp only [Vm.G, zA, zB, zC, zD, zE, zF, q53.1]
     cases c1 : (n.year != year)
     · have d1 : n.year = year := by simpa using c1
       simp -dsimp only [Vm.G, zA, zB, zC, zD, zE, zF, q53.1]
       cases c2 : (n.id != id)
       · have d2 : n.id = id := by simpa using c2
         simp -dsimp only [Vm.G, zA, zB, zC, zD, zE, zF, q53.1]
         exact hq1 n (if_pos ⟨d1, d2⟩)
       · have d2 : ¬ n.id = id := by simpa using c2
         simp -dsimp only [Vm.G, zA, zB, zC, zD, zE, zF, q53.1]
         exact hq2 (if_neg fun hc => d2 hc.2)
     · have d1 : ¬ n.year = year := by simpa using c1
       simp -dsimp only [Vm.G, zA, zB, zC, zD, zE, zF, q53.1]
       exact hq2 (if_neg fun hc => d1 hc.1)
   · have hq2 := hq2 (by simp only [hn])
     simp only [ndCells, Nd.zero]
     simp -dsimp only [Vm.G, zA, zB, zC, zD, zE, zF, q53.1]
     exact hq2
 · rw [hf] at hq2
   simp -dsimp only [Vm.G, zA, zB, zC, zD, zE, zF, q53.1]
   refine call_one (S := rNodeOfSpec) rfl _ GaL.rfl ⟨key, [], by omega, by simp, rfl, fun n hn => (by rw [nodeOf_nil] at hn; cases hn), fun hn => ?_⟩
   simp only [ndCells, Nd.zero]
   simp -dsimp only [Vm.G, zA, zB, zC, zD, zE, zF, q53.1]
   exact hq2 rfl
def rtPathSpec : Vm.Spec := fun args h Q => ∃ (R : RId) (f : Fun) (year id : Int), args = [.ptr R.iv 0, .v (.int .i64 year), .v (.int .i64 id)] ∧ isRef h R f ∧ f.n ≤ 536870912 ∧ Q (.own true 28 12 ((pathOf f year 8 id).map ndAv)) h
theorem does_rtPath : Does Tryz.prog 148 rtPathSpec := by
 refine dA (good_cons does_rtGet good_nil) Tryz.func148 rfl (by decide +kernel) ?_
 rintro args h Q ⟨R, f, year, id, rfl, hR, hfn, hq⟩
 refine ⟨by simp [Tryz.f148], ?_⟩
 simp -dsimp only [Vm.G, zA, zB, zC, zD, zE, zF, q148.1]
 refine awp_loop (fun m s h' => ∃ (id' : Int) (done : List Nd), done.length + m = 8 ∧ h' = h ∧ done ++ pathOf f year m id' = pathOf f year 8 id ∧ s = mk [(0, .ptr R.iv 0), (1, .v (.int .i64 year)), (2, .v (.int .i64 id')), (7, .own true 28 12 (done.map ndAv))])
   8 _ (le_mk _ ?_) ⟨id, [], rfl, rfl, rfl, rfl⟩ ?_
 · simp only [Vm.D]
   try simp -dsimp only [Vm.G, zA, zB, zC, zD, zE, zF, q148.1]
   repeat' first | exact .refl _ | exact .nil _ _ _ (by decide) | refine ⟨?_, ?_⟩
 · rintro m s h' ⟨id', done, hd, rfl, hp, rfl⟩
   simp -dsimp only [Vm.G, zA, zB, zC, zD, zE, zF, q148.1, zIa]
   refine cond_intro (fun hc => ?_) (fun hc => ?_)
   · have hlt : done.length < 8 := by have := of_decide_eq_true hc; omega
     have hm : m = (m - 1) + 1 := by omega
     generalize m - 1 = k at hm
     rw [hm] at hp
     simp only [pathOf] at hp
     simp -dsimp only [Vm.G, zA, zB, zC, zD, zE, zF, q148.1]
     refine call_one (S := rtGetSpec) rfl _ GaL.rfl ⟨R, f, year, id', rfl, hR, hfn, fun n hn => ?_, fun hn => ?_⟩
     · rw [hn] at hp
       have hp : done ++ (n :: if n.parent = 0 then [] else pathOf f year k n.parent) = pathOf f year 8 id := hp
       simp only [ndCells]
       simp -dsimp only [Vm.G, zA, zB, zC, zD, zE, zF, q148.1]
       refine bs_intro zr28 (by decide) (by decide) rfl rfl (by simp [solid, AV.cells]) ?_
       simp -dsimp only [Vm.G, zA, zB, zC, zD, zE, zF, q148.1]
       refine app_sl Tryz.underlying22 (by simp [AV.cells]) (by simp only [zIa, zJa, zMa]; omega) ?_
       have ed : done.map ndAv ++ [AV.agg [.v (.int .i64 n.year), .v (.int .i64 n.id), .v (.int .i64 n.parent), .v (.int .i64 n.fund), .v (.int .i64 n.obj), .v (.bool n.abs), .v (.int .i64 n.limit), .v (.int .i64 n.pre), .v (.int .i64 n.enc), .v (.int .i64 n.exp), .v (.int .i64 n.lapsed), .v (.int .i64 n.carried)]] = (done ++ [n]).map ndAv := by
         simp [ndAv, ndCells]
       simp -dsimp only [Vm.G, zA, zB, zC, zD, zE, zF, q148.1, ed]
       cases c1 : (n.parent == 0)
       · have d1 : ¬ n.parent = 0 := by simpa using c1
         rw [if_neg d1] at hp
         simp -dsimp only [Vm.G, zA, zB, zC, zD, zE, zF, q148.1]
         refine kept_intro ⟨k, by omega, _, le_mk [(0, .ptr R.iv 0), (1, .v (.int .i64 year)), (2, .v (.int .i64 n.parent)), (7, .own true 28 12 ((done ++ [n]).map ndAv))] ?_, n.parent, done ++ [n], by simp only [zIb, zJa, zMa]; omega, rfl, by rw [List.append_assoc]; exact hp, rfl⟩
         simp only [Vm.D]
         try simp -dsimp only [Vm.G, zA, zB, zC, zD, zE, zF, q148.1]
         repeat' first | exact .refl _ | exact .nil _ _ _ (by decide) | refine ⟨?_, ?_⟩
       · have d1 : n.parent = 0 := by simpa using c1
         rw [if_pos d1] at hp
         simp -dsimp only [Vm.G, zA, zB, zC, zD, zE, zF, q148.1]
         rw [← hp] at hq
         exact hq
     · rw [hn] at hp
       have hp : done ++ [] = pathOf f year 8 id := hp
       simp only [ndCells]
       simp -dsimp only [Vm.G, zA, zB, zC, zD, zE, zF, q148.1]
       rw [← hp, zPb] at hq
       exact hq
   · have hge : ¬ done.length < 8 := by have := of_decide_eq_false hc; omega
     have hm : m = 0 := by omega
     rw [hm] at hp
     have hp : done ++ [] = pathOf f year 8 id := hp
     simp -dsimp only [Vm.G, zA, zB, zC, zD, zE, zF, q148.1]
     rw [← hp, zPb] at hq
     exact hq
theorem does_rtUsed : Does Tryz.prog 203 usedSpec := by
 refine dA good_nil Tryz.func203 rfl (by decide +kernel) ?_
 rintro args h Q ⟨n, rfl, hq⟩
 refine ⟨by simp [Tryz.f203], ?_⟩
 unfold usedOf at hq
 simp only [ndCells]
 simp -dsimp only [Vm.G, zA, zB, zC, zD, zE, zF, q203.1]
 exact hq
def askLn (p : Ln → Bool) : Vm.Spec := fun args h Q => ∃ x : Ln, args = [lnAv x] ∧ Q (.v (.bool (p x))) h
def ixSpecLn (T : Tab) : Vm.Spec := fun args h Q => ∃ (g : FuncId) (p : Ln → Bool) (l : List Ln), T g = some (askLn p) ∧ l.length ≤ 9223372036854775807 ∧ args = [.sl 4 (l.map lnAv), .clo g []] ∧ ∀ i : Int, (l.any p = true ↔ 0 ≤ i) → Q (.v (.int .i64 i)) h
theorem does_ixLn {T : Tab} (hT : Good T) : Does Tryz.prog 122 (ixSpecLn T) := by
 refine dA hT Tryz.func122 rfl (by decide +kernel) ?_
 rintro args h Q ⟨g, p, l, hg, hl, rfl, hq⟩
 refine ⟨by simp [Tryz.f122], ?_⟩
 simp -dsimp only [Vm.G, zA, zB, zC, zD, zE, zF, q122.1]
 refine awp_loop (fun m s h' => ∃ i : Nat, i + m = l.length ∧ h' = h ∧ (∀ j (hj : j < l.length), j < i → p l[j] = false) ∧ s = mk [(0, .sl 4 (l.map lnAv)), (1, .clo g []), (7, .v (.int .i64 l.length)), (8, .v (.int .i64 i))])
   l.length _ (le_mk _ ?_) ⟨0, by omega, rfl, fun j _ hj => by omega, rfl⟩ ?_
 · simp only [Vm.D]
   try simp -dsimp only [Vm.G, zA, zB, zC, zD, zE, zF, q122.1]
   repeat' first | exact .refl _ | exact .nil _ _ _ (by decide) | refine ⟨?_, ?_⟩
 · rintro m s h' ⟨i, hi, rfl, hb, rfl⟩
   simp -dsimp only [Vm.G, zA, zB, zC, zD, zE, zF, q122.1]
   refine cond_intro (fun hcc => ?_) (fun hcc => ?_)
   · have hlt : i < l.length := by have := of_decide_eq_true hcc; omega
     obtain ⟨x, hx⟩ : ∃ x, l[i] = x := ⟨_, rfl⟩
     have hw := hwN i (by omega)
     simp -dsimp only [Vm.G, zA, zB, zC, zD, zE, zF, q122.1]
     refine idx_map lnAv l i hlt ?_
     simp only [hx, lnAv, lnCells]
     simp -dsimp only [Vm.G, zA, zB, zC, zD, zE, zF, q122.1, AV.cells]
     refine call_one (S := askLn p) hg _ GaL.rfl ⟨x, rfl, ?_⟩
     cases hp : p x
     · simp -dsimp only [Vm.G, zA, zB, zC, zD, zE, zF, q122.1]
       refine kept_intro ⟨l.length - (i + 1), by omega, _, le_mk [(0, .sl 4 (l.map lnAv)), (1, .clo g []), (7, .v (.int .i64 l.length)), (8, .v (.int .i64 (i + 1 : Nat)))] ?_, i + 1, by omega, rfl, fun j hj hj2 => ?_, rfl⟩
       · simp only [Vm.D, hw]
         try simp -dsimp only [Vm.G, zA, zB, zC, zD, zE, zF, q122.1, hw]
         repeat' first | exact .refl _ | exact .nil _ _ _ (by decide) | refine ⟨?_, ?_⟩
       · by_cases hji : j = i
         · subst hji; rw [hx]; exact hp
         · exact hb j hj (by omega)
     · simp -dsimp only [Vm.G, zA, zB, zC, zD, zE, zF, q122.1]
       exact hq _ ⟨fun _ => by omega, fun _ => List.any_eq_true.2 ⟨x, hx ▸ zOb hlt, hp⟩⟩
   · have hge : ¬ i < l.length := by have := of_decide_eq_false hcc; omega
     simp -dsimp only [Vm.G, zA, zB, zC, zD, zE, zF, q122.1]
     refine hq _ ⟨fun hm => ?_, fun h0 => by omega⟩
     obtain ⟨x, hx, hp⟩ := List.any_eq_true.1 hm
     obtain ⟨j, hj, rfl⟩ := List.getElem_of_mem hx
     rw [hb j hj (by omega)] at hp; cases hp
def hasSpecLn (T : Tab) : Vm.Spec := fun args h Q => ∃ (g : FuncId) (p : Ln → Bool) (l : List Ln), T g = some (askLn p) ∧ l.length ≤ 9223372036854775807 ∧ args = [.sl 4 (l.map lnAv), .clo g []] ∧ Q (.v (.bool (l.any p))) h
theorem does_hasLn {T : Tab} (hT : Good T) : Does Tryz.prog 70 (hasSpecLn T) := by
 refine dA (good_cons (does_ixLn hT) good_nil) Tryz.func70 rfl (by decide +kernel) ?_
 rintro args h Q ⟨g, p, l, hg, hl, rfl, hq⟩
 refine ⟨by simp [Tryz.f70], ?_⟩
 simp -dsimp only [Vm.G, zA, zB, zC, zD, zE, zF, q70.1]
 refine call_one (S := ixSpecLn T) rfl _ GaL.rfl ⟨g, p, l, hg, hl, rfl, fun i hi => ?_⟩
 have e : decide (i ≥ 0) = l.any p := by
   cases hx : l.any p
   · rw [hx] at hi; exact decide_eq_false fun h0 => by have := hi.2 h0; cases this
   · exact decide_eq_true (hi.1 hx)
 simp -dsimp only [Vm.G, zA, zB, zC, zD, zE, zF, q70.1, e]
 exact hq
def rightA (n : Int) : Bool := decide (1 ≤ n) && decide (n ≤ 9007199254740992)
theorem does_amtRight : Does Tryz.prog 69 (predSpec rightA) := by
 refine dA good_nil Tryz.func69 rfl (by decide +kernel) ?_
 rintro args h Q ⟨n, rfl, hq⟩
 refine ⟨by simp [Tryz.f69], ?_⟩
 unfold rightA at hq
 simp -dsimp only [Vm.G, zA, zB, zC, zD, zE, zF, q69.1]
 cases c1 : decide (1 ≤ n)
 · rw [c1] at hq
   simp -dsimp only [Vm.G, zA, zB, zC, zD, zE, zF, q69.1]
   exact hq
 · rw [c1] at hq
   simp -dsimp only [Vm.G, zA, zB, zC, zD, zE, zF, q69.1]
   exact hq
def wrongL (x : Ln) : Bool := !rightA x.amt
theorem does_wrongL : Does Tryz.prog 68 (askLn wrongL) := by
 refine dA (good_cons does_amtRight good_nil) Tryz.func68 rfl (by decide +kernel) ?_
 rintro args h Q ⟨x, rfl, hq⟩
 refine ⟨by simp [Tryz.f68], ?_⟩
 unfold wrongL at hq
 simp only [lnAv, lnCells]
 simp -dsimp only [Vm.G, zA, zB, zC, zD, zE, zF, q68.1]
 refine call_one (S := predSpec rightA) rfl _ GaL.rfl ⟨x.amt, rfl, ?_⟩
 simp -dsimp only [Vm.G, zA, zB, zC, zD, zE, zF, q68.1]
 exact hq
def wrongT : Tab := tab [(68, askLn wrongL)]
theorem good_wrongT : Good wrongT := good_cons does_wrongL good_nil
def preCheck (l : List Ln) : Int := if l.length = 0 ∨ 6 < l.length ∨ l.any wrongL = true then 1 else 0
def preCheckSpec : Vm.Spec := fun args h Q => ∃ l : List Ln, l.length ≤ 9223372036854775807 ∧ args = [.sl 4 (l.map lnAv)] ∧ Q (.v (.int .i64 (preCheck l))) h
theorem does_preCheck : Does Tryz.prog 29 preCheckSpec := by
 refine dA (good_cons (does_hasLn good_wrongT) good_nil) Tryz.func29 rfl (by decide +kernel) ?_
 rintro args h Q ⟨l, hl, rfl, hq⟩
 refine ⟨by simp [Tryz.f29], ?_⟩
 unfold preCheck at hq
 simp -dsimp only [Vm.G, zA, zB, zC, zD, zE, zF, q29.1]
 cases c0 : ((l.length : Int) == 0)
 · have d0 : ¬ l.length = 0 := by intro e; rw [e] at c0; simp at c0
   simp -dsimp only [Vm.G, zA, zB, zC, zD, zE, zF, q29.1]
   cases c6 : decide ((l.length : Int) > 6)
   · have d6 : ¬ 6 < l.length := by have := of_decide_eq_false c6; omega
     simp -dsimp only [Vm.G, zA, zB, zC, zD, zE, zF, q29.1]
     refine call_one (S := hasSpecLn wrongT) rfl _ GaL.rfl ⟨68, wrongL, l, rfl, hl, rfl, ?_⟩
     cases ca : l.any wrongL
     · rw [ca, if_neg (by simp [d0, d6])] at hq
       simp -dsimp only [Vm.G, zA, zB, zC, zD, zE, zF, q29.1]
       exact hq
     · rw [ca, if_pos (.inr (.inr rfl))] at hq
       simp -dsimp only [Vm.G, zA, zB, zC, zD, zE, zF, q29.1]
       exact hq
   · have d6 : 6 < l.length := by have := of_decide_eq_true c6; omega
     rw [if_pos (.inr (.inl d6))] at hq
     simp -dsimp only [Vm.G, zA, zB, zC, zD, zE, zF, q29.1]
     exact hq
 · have d0 : l.length = 0 := by have : (l.length : Int) = 0 := by simpa using c0
                                omega
   rw [if_pos (.inl d0)] at hq
   simp -dsimp only [Vm.G, zA, zB, zC, zD, zE, zF, q29.1]
   exact hq
structure Dl where
 node : Int
 orig : Int
 liq : Int
 can : Int
def dlCells (x : Dl) : List AV := [.v (.int .i64 x.node), .v (.int .i64 x.orig), .v (.int .i64 x.liq), .v (.int .i64 x.can)]
def dlAv (x : Dl) : AV := .agg (dlCells x)
def Dl.ok (x : Dl) : Prop := I64 x.node ∧ I64 x.orig ∧ I64 x.liq ∧ I64 x.can
structure Dc where
 id : Int
 kind : Int
 year : Int
 frm : Int
 lines : Int
def dcCells (d : Dc) : List AV := [.v (.int .i64 d.id), .v (.int .i64 d.kind), .v (.int .i64 d.year), .v (.int .i64 d.frm), .v (.int .i64 d.lines)]
def Dc.ok (d : Dc) : Prop := I64 d.id ∧ I64 d.kind ∧ I64 d.year ∧ I64 d.frm ∧ I64 d.lines
def dlK (id i : Int) : List UInt8 := keyOf 76 [id, i]
def dlV (x : Dl) : List UInt8 := packOf [x.node, x.orig, x.liq, x.can]
def dcK (id : Int) : List UInt8 := keyOf 68 [id]
def dcV (d : Dc) : List UInt8 := packOf [d.kind, d.year, d.frm, d.lines]
theorem dlK_length (id i : Int) : (dlK id i).length = 9 := by simp [dlK, keyOf, packs, be_length]
theorem dcK_length (id : Int) : (dcK id).length = 5 := by simp [dcK, keyOf, packs, be_length]
theorem dlV_length (x : Dl) : (dlV x).length = 32 := by simp [dlV, packOf, packs, be_length]
theorem dcV_length (d : Dc) : (dcV d).length = 32 := by simp [dcV, packOf, packs, be_length]
theorem right_dl (id i : Int) (x : Dl) : rightKV (dlK id i) (dlV x) = true := by simp [rightKV, dlK_length, dlV_length]
theorem right_dc (id : Int) (d : Dc) : rightKV (dcK id) (dcV d) = true := by simp [rightKV, dcK_length, dcV_length]
theorem does_docLines : Does Tryz.prog 143 (tabSpec 76 2 4) := by
 refine dA good_nil Tryz.func143 rfl (by decide +kernel) ?_
 rintro args h Q ⟨rfl, hq⟩
 refine ⟨by simp [Tryz.f143], ?_⟩
 simp -dsimp only [Vm.G, zA, zB, zC, zD, zE, zF, q143.1]
 exact hq
theorem does_documents : Does Tryz.prog 144 (tabSpec 68 1 4) := by
 refine dA good_nil Tryz.func144 rfl (by decide +kernel) ?_
 rintro args h Q ⟨rfl, hq⟩
 refine ⟨by simp [Tryz.f144], ?_⟩
 simp -dsimp only [Vm.G, zA, zB, zC, zD, zE, zF, q144.1]
 exact hq
def rdlSpec : Vm.Spec := fun args h Q => ∃ (id i : Int) (x : Dl), I64 id ∧ I64 i ∧ x.ok ∧ args = [.v (.int .i64 id), .v (.int .i64 i), dlAv x] ∧ Q (.agg [.sl 1 ((dlK id i).map encB), .sl 1 ((dlV x).map encB)]) h
theorem does_recDl : Does Tryz.prog 87 rdlSpec := by
 refine dA (good_cons does_docLines (good_cons does_pair good_nil)) Tryz.func87 rfl (by decide +kernel) ?_
 rintro args h Q ⟨id, i, x, hid, hi, ⟨o1, o2, o3, o4⟩, rfl, hq⟩
 refine ⟨by simp [Tryz.f87], ?_⟩
 simp only [dlAv, dlCells]
 simp -dsimp only [Vm.G, zA, zB, zC, zD, zE, zF, q87.1]
 refine draw_cont [5] (.take 1 (.take 2 (.take 3 (.take 4 (.take 5 (.take 6 (.take 7 (.take 8 (.take 9 (.take 10 (.alt 0 (.alt 11 (.alt 12 (.alt 13 (.done) .stop) .stop) .stop) (.alt 11 (.alt 0 (.alt 12 (.alt 13 (.done) .stop) .stop) .stop) (.stop))))))))))))) (fun s h2 => h2 = h ∧ s 6 = .box [.sl 1 ((dlK id i).map encB), .sl 1 ((dlV x).map encB)]) (by kernel_rfl) (by kernel_rfl) (by kernel_rfl) (by decide) ?_ ?_
 · have hm : ∀ m ∈ [id, i, x.node, x.orig, x.liq, x.can], I64 m := fun m hm => by
     simp only [zXa, zUa, or_false] at hm
     rcases hm with rfl | rfl | rfl | rfl | rfl | rfl <;> assumption
   have e1 : keyOf 76 (([id, i, x.node, x.orig, x.liq, x.can] : List Int).take 2) = dlK id i := rfl
   have e2 : packOf (([id, i, x.node, x.orig, x.liq, x.can] : List Int).drop 2) = dlV x := rfl
   repeat' first
     | with_reducible exact True.intro
     | simp -dsimp only [Vm.G, zA, zB, zC, zD, zE, zF, q87.1, e1, e2]
     | refine call_one (S := tabSpec 76 2 4) rfl _ GaL.rfl ⟨rfl, ?_⟩
     | refine call_one (S := pairSpec) rfl _ GaL.rfl ⟨76, 2, 4, [id, i, x.node, x.orig, x.liq, x.can], by simp, by simp, hm, rfl, ?_⟩
     | refine bs_intro zr3 (by decide) (by decide) rfl rfl (by simp [solid, AV.cells]) ?_
     | refine tree_alt ?_ ?_
     | repeat' first | rfl | exact True.intro | refine And.intro ?_ ?_
 · rintro s h2 ⟨rfl, e6⟩
   simp -dsimp only [Vm.G, zA, zB, zC, zD, zE, zF, q87.1, e6]
   exact hq
def rdcSpec : Vm.Spec := fun args h Q => ∃ d : Dc, d.ok ∧ args = [.agg (dcCells d)] ∧ Q (.agg [.sl 1 ((dcK d.id).map encB), .sl 1 ((dcV d).map encB)]) h
theorem does_recDc : Does Tryz.prog 88 rdcSpec := by
 refine dA (good_cons does_documents (good_cons does_pair good_nil)) Tryz.func88 rfl (by decide +kernel) ?_
 rintro args h Q ⟨d, ⟨o1, o2, o3, o4, o5⟩, rfl, hq⟩
 refine ⟨by simp [Tryz.f88], ?_⟩
 simp only [dcCells]
 simp -dsimp only [Vm.G, zA, zB, zC, zD, zE, zF, q88.1]
 refine draw_cont [1] (.take 1 (.take 2 (.take 3 (.take 4 (.take 5 (.take 6 (.take 7 (.take 8 (.take 9 (.take 10 (.alt 0 (.alt 11 (.alt 12 (.alt 13 (.done) .stop) .stop) .stop) (.alt 11 (.alt 0 (.alt 12 (.alt 13 (.done) .stop) .stop) .stop) (.stop))))))))))))) (fun s h2 => h2 = h ∧ s 2 = .box [.sl 1 ((dcK d.id).map encB), .sl 1 ((dcV d).map encB)]) (by kernel_rfl) (by kernel_rfl) (by kernel_rfl) (by decide) ?_ ?_
 · have hm : ∀ m ∈ [d.id, d.kind, d.year, d.frm, d.lines], I64 m := fun m hm => by
     simp only [zXa, zUa, or_false] at hm
     rcases hm with rfl | rfl | rfl | rfl | rfl <;> assumption
   have e1 : keyOf 68 (([d.id, d.kind, d.year, d.frm, d.lines] : List Int).take 1) = dcK d.id := rfl
   have e2 : packOf (([d.id, d.kind, d.year, d.frm, d.lines] : List Int).drop 1) = dcV d := rfl
   repeat' first
     | with_reducible exact True.intro
     | simp -dsimp only [Vm.G, zA, zB, zC, zD, zE, zF, q88.1, e1, e2]
     | refine call_one (S := tabSpec 68 1 4) rfl _ GaL.rfl ⟨rfl, ?_⟩
     | refine call_one (S := pairSpec) rfl _ GaL.rfl ⟨68, 1, 4, [d.id, d.kind, d.year, d.frm, d.lines], by simp, by simp, hm, rfl, ?_⟩
     | refine bs_intro zr3 (by decide) (by decide) rfl rfl (by simp [solid, AV.cells]) ?_
     | refine tree_alt ?_ ?_
     | repeat' first | rfl | exact True.intro | refine And.intro ?_ ?_
 · rintro s h2 ⟨rfl, e2⟩
   simp -dsimp only [Vm.G, zA, zB, zC, zD, zE, zF, q88.1, e2]
   exact hq
def dsetSpec : Vm.Spec := fun args h Q => ∃ (V : VId) (f : Fun) (k v : List UInt8), args = [.agg [.ptr V.iv 0], .agg [.sl 1 (k.map encB), .sl 1 (v.map encB)]] ∧ rightKV k v = true ∧ isView h V f ∧ ∀ h', isView h' V (upd f k (some v)) → Same h h' [V.ic] → Q (.v (.int .i64 0)) h'
theorem does_dset : Does Tryz.prog 86 dsetSpec := by
 refine dA (good_cons does_vput good_nil) Tryz.func86 rfl (by decide +kernel) ?_
 rintro args h Q ⟨V, f, k, v, rfl, hr, hV, hq⟩
 refine ⟨by simp [Tryz.f86], ?_⟩
 simp -dsimp only [Vm.G, zA, zB, zC, zD, zE, zF, q86.1]
 refine call_one (S := vputSpec) rfl _ GaL.rfl ⟨V, f, k, v, rfl, hV, fun _ h' g1 g2 => ?_, fun hc => by rw [hr] at hc; cases hc⟩
 simp -dsimp only [Vm.G, zA, zB, zC, zD, zE, zF, q86.1]
 exact hq h' g1 g2
def putLines (id : Int) : Nat → List Dl → Fun → Fun
 | _, [], f => f
 | i, x :: r, f => putLines id (i + 1) r (upd f (dlK id i) (some (dlV x)))
def docsF (f : Fun) (id : Int) (d : Dc) (l : List Dl) : Fun := upd (putLines id 0 l (upd f (seqKey 2) (some (be 8 id)))) (dcK id) (some (dcV { d with id := id, lines := l.length }))
def docsPut (f : Fun) (d : Dc) (l : List Dl) : Fun × Int × Int :=
 if l.length = 0 ∨ 6 < l.length then (f, 0, 1)
 else if readOf f (seqKey 2) < 0 ∨ 4294967294 < readOf f (seqKey 2) then (f, 0, 9)
 else (docsF f (readOf f (seqKey 2) + 1) d l, readOf f (seqKey 2) + 1, 0)
def docsPutSpec : Vm.Spec := fun args h Q => ∃ (V : VId) (f : Fun) (d : Dc) (l : List Dl), d.ok ∧ (∀ x ∈ l, x.ok) ∧ args = [.ptr V.iv 0, .agg (dcCells d), .sl 4 (l.map dlAv)] ∧ isView h V f ∧
 ∀ h', isView h' V (docsPut f d l).1 → Same h h' [V.ic] → Q (.tup [.v (.int .i64 (docsPut f d l).2.1), .v (.int .i64 (docsPut f d l).2.2)]) h'
theorem does_docsPut : Does Tryz.prog 42 docsPutSpec := by
 refine dA (good_cons does_seqNext (good_cons does_recDl (good_cons does_dset (good_cons does_recDc good_nil)))) Tryz.func42 rfl (by decide +kernel) ?_
 rintro args h Q ⟨V, f, d, l, hd, hx, rfl, hV, hq⟩
 refine ⟨by simp [Tryz.f42], ?_⟩
 unfold docsPut at hq
 simp only [dcCells]
 simp -dsimp only [Vm.G, zA, zB, zC, zD, zE, zF, q42.1]
 cases c0 : ((l.length : Int) == 0)
 · have d0 : ¬ l.length = 0 := by intro e; rw [e] at c0; simp at c0
   simp -dsimp only [Vm.G, zA, zB, zC, zD, zE, zF, q42.1]
   cases c6 : decide ((l.length : Int) > 6)
   · have d6 : ¬ 6 < l.length := by have := of_decide_eq_false c6; omega
     have hr := readOf_range f (seqKey 2)
     simp only [if_neg (show ¬ (l.length = 0 ∨ 6 < l.length) by omega)] at hq
     simp -dsimp only [Vm.G, zA, zB, zC, zD, zE, zF, q42.1]
     refine call_one (S := seqNextSpec) rfl _ GaL.rfl ⟨V, f, 2, rfl, hV, fun hr => ?_, fun hn h1 g1 g2 => ?_⟩
     · simp only [if_pos hr] at hq
       simp -dsimp only [Vm.G, zA, zB, zC, zD, zE, zF, q42.1]
       exact hq h hV (.refl _ _)
     · simp only [if_neg hn] at hq
       unfold docsF at hq
       have hidr : I64 (readOf f (seqKey 2) + 1) := by unfold I64 at hr ⊢; omega
       generalize readOf f (seqKey 2) + 1 = id at hq g1 hidr ⊢
       generalize upd f (seqKey 2) (some (be 8 id)) = f1 at hq g1
       simp -dsimp only [Vm.G, zA, zB, zC, zD, zE, zF, q42.1]
       refine awp_loop (fun m s h' => ∃ (i : Nat) (g : Fun) (s10 : AV), i + m = l.length ∧ isView h' V g ∧ Same h h' [V.ic] ∧ putLines id i (l.drop i) g = putLines id 0 l f1 ∧ (s10 = .box [.ptr V.iv 0] ∨ s10 = .eptr [.ptr V.iv 0]) ∧ s = mk [(2, .sl 4 (l.map dlAv)), (4, .box [.v (.int .i64 d.id), .v (.int .i64 d.kind), .v (.int .i64 d.year), .v (.int .i64 d.frm), .v (.int .i64 d.lines)]), (8, .v (.int .i64 id)), (10, s10), (33, .sl 4 (l.map dlAv)), (34, .v (.int .i64 l.length)), (35, .v (.int .i64 (i : Nat)))])
         l.length _ (le_mk _ ?_) ⟨0, f1, .box [.ptr V.iv 0], by omega, g1, g2, rfl, .inl rfl, rfl⟩ ?_
       · simp only [Vm.D]
         try simp -dsimp only [Vm.G, zA, zB, zC, zD, zE, zF, q42.1]
         repeat' first | exact .refl _ | exact .nil _ _ _ (by decide) | refine ⟨?_, ?_⟩
       · clear g1 g2 hV
         rintro m s h' ⟨i, g, s10, hi, hV, hsm, hp, h10, rfl⟩
         simp -dsimp only [Vm.G, zA, zB, zC, zD, zE, zF, q42.1]
         refine cond_intro (fun hcc => ?_) (fun hcc => ?_)
         · have hlt : i < l.length := by have := of_decide_eq_true hcc; omega
           have hw := hwN i (by omega)
           have hok := hx l[i] (zOb hlt)
           rw [List.drop_eq_getElem_cons hlt] at hp
           simp -dsimp only [Vm.G, zA, zB, zC, zD, zE, zF, q42.1]
           refine idx_map dlAv l i hlt ?_
           generalize l[i] = x at hok hp
           have hii : I64 (i : Int) := by unfold I64; omega
           simp only [dlAv, dlCells]
           simp -dsimp only [Vm.G, zA, zB, zC, zD, zE, zF, q42.1, AV.cells]
           rcases h10 with rfl | rfl
           · refine draw_cont [10, 12] (.take 0 (.take 1 (.take 2 (.take 3 (.alt 4 (.alt 5 (.alt 6 (.done) .stop) .stop) .stop))))) (fun s h2 => isView h2 V (upd g (dlK id i) (some (dlV x))) ∧ Same h' h2 [V.ic] ∧ s 13 = .v (.int .i64 0) ∧ s 2 = .sl 4 (l.map dlAv) ∧ s 4 = .box [.v (.int .i64 d.id), .v (.int .i64 d.kind), .v (.int .i64 d.year), .v (.int .i64 d.frm), .v (.int .i64 d.lines)] ∧ s 8 = .v (.int .i64 id) ∧ s 10 = .eptr [.ptr V.iv 0] ∧ s 33 = .sl 4 (l.map dlAv) ∧ s 34 = .v (.int .i64 l.length) ∧ s 35 = .v (.int .i64 i)) (by kernel_rfl) (by kernel_rfl) (by kernel_rfl) (by decide) ?_ ?_
             · simp -dsimp only [Vm.G, zA, zB, zC, zD, zE, zF, q42.1]
               refine call_one (S := rdlSpec) rfl _ GaL.rfl ⟨id, i, x, hidr, hii, hok, rfl, ?_⟩
               simp -dsimp only [Vm.G, zA, zB, zC, zD, zE, zF, q42.1]
               refine call_one (S := dsetSpec) rfl _ GaL.rfl ⟨V, g, dlK id i, dlV x, rfl, right_dl id i x, hV, fun h2 g1 g2 => ?_⟩
               simp -dsimp only [Vm.G, zA, zB, zC, zD, zE, zF, q42.1]
               refine ⟨g1, g2, ?_⟩
               repeat' first | rfl | exact True.intro | refine And.intro ?_ ?_
             · rintro s h2 ⟨g1, g2, e13, e2, e4, e8, e10, e33, e34, e35⟩
               simp -dsimp only [Vm.G, zA, zB, zC, zD, zE, zF, q42.1, e13, e2, e4, e8, e10, e33, e34, e35]
               refine kept_intro ⟨l.length - (i + 1), by omega, _, le_mk [(2, .sl 4 (l.map dlAv)), (4, .box [.v (.int .i64 d.id), .v (.int .i64 d.kind), .v (.int .i64 d.year), .v (.int .i64 d.frm), .v (.int .i64 d.lines)]), (8, .v (.int .i64 id)), (10, .eptr [.ptr V.iv 0]), (33, .sl 4 (l.map dlAv)), (34, .v (.int .i64 l.length)), (35, .v (.int .i64 (i + 1 : Nat)))] ?_, i + 1, _, _, by omega, g1, hsm.trans g2, hp, .inr rfl, rfl⟩
               simp only [Vm.D, hw, e2, e4, e8, e10, e33, e34, e35]
               try simp -dsimp only [Vm.G, zA, zB, zC, zD, zE, zF, q42.1, hw, e2, e4, e8, e10, e33, e34, e35]
               repeat' first | exact .refl _ | exact .nil _ _ _ (by decide) | refine ⟨?_, ?_⟩
           · refine draw_cont [12] (.take 0 (.take 1 (.take 2 (.take 3 (.alt 4 (.alt 5 (.alt 6 (.done) .stop) .stop) .stop))))) (fun s h2 => isView h2 V (upd g (dlK id i) (some (dlV x))) ∧ Same h' h2 [V.ic] ∧ s 13 = .v (.int .i64 0) ∧ s 2 = .sl 4 (l.map dlAv) ∧ s 4 = .box [.v (.int .i64 d.id), .v (.int .i64 d.kind), .v (.int .i64 d.year), .v (.int .i64 d.frm), .v (.int .i64 d.lines)] ∧ s 8 = .v (.int .i64 id) ∧ s 10 = .eptr [.ptr V.iv 0] ∧ s 33 = .sl 4 (l.map dlAv) ∧ s 34 = .v (.int .i64 l.length) ∧ s 35 = .v (.int .i64 i)) (by kernel_rfl) (by kernel_rfl) (by kernel_rfl) (by decide) ?_ ?_
             · simp -dsimp only [Vm.G, zA, zB, zC, zD, zE, zF, q42.1]
               refine call_one (S := rdlSpec) rfl _ GaL.rfl ⟨id, i, x, hidr, hii, hok, rfl, ?_⟩
               simp -dsimp only [Vm.G, zA, zB, zC, zD, zE, zF, q42.1]
               refine call_one (S := dsetSpec) rfl _ GaL.rfl ⟨V, g, dlK id i, dlV x, rfl, right_dl id i x, hV, fun h2 g1 g2 => ?_⟩
               simp -dsimp only [Vm.G, zA, zB, zC, zD, zE, zF, q42.1]
               refine ⟨g1, g2, ?_⟩
               repeat' first | rfl | exact True.intro | refine And.intro ?_ ?_
             · rintro s h2 ⟨g1, g2, e13, e2, e4, e8, e10, e33, e34, e35⟩
               simp -dsimp only [Vm.G, zA, zB, zC, zD, zE, zF, q42.1, e13, e2, e4, e8, e10, e33, e34, e35]
               refine kept_intro ⟨l.length - (i + 1), by omega, _, le_mk [(2, .sl 4 (l.map dlAv)), (4, .box [.v (.int .i64 d.id), .v (.int .i64 d.kind), .v (.int .i64 d.year), .v (.int .i64 d.frm), .v (.int .i64 d.lines)]), (8, .v (.int .i64 id)), (10, .eptr [.ptr V.iv 0]), (33, .sl 4 (l.map dlAv)), (34, .v (.int .i64 l.length)), (35, .v (.int .i64 (i + 1 : Nat)))] ?_, i + 1, _, _, by omega, g1, hsm.trans g2, hp, .inr rfl, rfl⟩
               simp only [Vm.D, hw, e2, e4, e8, e10, e33, e34, e35]
               try simp -dsimp only [Vm.G, zA, zB, zC, zD, zE, zF, q42.1, hw, e2, e4, e8, e10, e33, e34, e35]
               repeat' first | exact .refl _ | exact .nil _ _ _ (by decide) | refine ⟨?_, ?_⟩
         · have hge : ¬ i < l.length := by have := of_decide_eq_false hcc; omega
           rw [List.drop_of_length_le (by omega)] at hp
           have hp : g = putLines id 0 l f1 := hp
           rw [← hp] at hq
           obtain ⟨o1, o2, o3, o4, o5⟩ := hd
           have hdok : ({ d with id := id, lines := (l.length : Int) } : Dc).ok := ⟨hidr, o2, o3, o4, by unfold I64; show -9223372036854775808 ≤ (l.length : Int) ∧ (l.length : Int) ≤ _; omega⟩
           simp -dsimp only [Vm.G, zA, zB, zC, zD, zE, zF, q42.1]
           have fin : ∀ {s : Slots}, True := fun {_} => trivial
           rcases h10 with rfl | rfl
           · refine draw_cont [10, 4] (.take 0 (.take 1 (.alt 2 (.alt 3 (.alt 4 (.done) .stop) .stop) .stop))) (fun s h2 => isView h2 V (upd g (dcK id) (some (dcV { d with id := id, lines := l.length }))) ∧ Same h' h2 [V.ic] ∧ s 14 = .v (.int .i64 0) ∧ s 8 = .v (.int .i64 id)) (by kernel_rfl) (by kernel_rfl) (by kernel_rfl) (by decide) ?_ ?_
             · simp -dsimp only [Vm.G, zA, zB, zC, zD, zE, zF, q42.1]
               refine call_one (S := rdcSpec) rfl _ GaL.rfl ⟨{ d with id := id, lines := l.length }, hdok, rfl, ?_⟩
               simp -dsimp only [Vm.G, zA, zB, zC, zD, zE, zF, q42.1]
               refine call_one (S := dsetSpec) rfl _ GaL.rfl ⟨V, g, dcK id, dcV { d with id := id, lines := l.length }, rfl, right_dc id _, hV, fun h2 g1 g2 => ?_⟩
               simp -dsimp only [Vm.G, zA, zB, zC, zD, zE, zF, q42.1]
               refine ⟨g1, g2, ?_⟩
               repeat' first | rfl | exact True.intro | refine And.intro ?_ ?_
             · rintro s h2 ⟨g1, g2, e14, e8⟩
               simp -dsimp only [Vm.G, zA, zB, zC, zD, zE, zF, q42.1, e14, e8]
               exact hq h2 g1 (hsm.trans g2)
           · refine draw_cont [4] (.take 0 (.take 1 (.alt 2 (.alt 3 (.alt 4 (.done) .stop) .stop) .stop))) (fun s h2 => isView h2 V (upd g (dcK id) (some (dcV { d with id := id, lines := l.length }))) ∧ Same h' h2 [V.ic] ∧ s 14 = .v (.int .i64 0) ∧ s 8 = .v (.int .i64 id)) (by kernel_rfl) (by kernel_rfl) (by kernel_rfl) (by decide) ?_ ?_
             · simp -dsimp only [Vm.G, zA, zB, zC, zD, zE, zF, q42.1]
               refine call_one (S := rdcSpec) rfl _ GaL.rfl ⟨{ d with id := id, lines := l.length }, hdok, rfl, ?_⟩
               simp -dsimp only [Vm.G, zA, zB, zC, zD, zE, zF, q42.1]
               refine call_one (S := dsetSpec) rfl _ GaL.rfl ⟨V, g, dcK id, dcV { d with id := id, lines := l.length }, rfl, right_dc id _, hV, fun h2 g1 g2 => ?_⟩
               simp -dsimp only [Vm.G, zA, zB, zC, zD, zE, zF, q42.1]
               refine ⟨g1, g2, ?_⟩
               repeat' first | rfl | exact True.intro | refine And.intro ?_ ?_
             · rintro s h2 ⟨g1, g2, e14, e8⟩
               simp -dsimp only [Vm.G, zA, zB, zC, zD, zE, zF, q42.1, e14, e8]
               exact hq h2 g1 (hsm.trans g2)
   · have d6 : 6 < l.length := by have := of_decide_eq_true c6; omega
     simp only [if_pos (show l.length = 0 ∨ 6 < l.length from .inr d6)] at hq
     simp -dsimp only [Vm.G, zA, zB, zC, zD, zE, zF, q42.1]
     exact hq h hV (.refl _ _)
 · have d0 : l.length = 0 := by
     have : (l.length : Int) = 0 := by simpa using c0
     omega
   simp only [if_pos (show l.length = 0 ∨ 6 < l.length from .inl d0)] at hq
   simp -dsimp only [Vm.G, zA, zB, zC, zD, zE, zF, q42.1]
   exact hq h hV (.refl _ _)
def ownL (l : List Ln) : List Dl := l.map fun x => ⟨x.node, x.amt, 0, 0⟩
def linesSpec : Vm.Spec := fun args h Q => ∃ l : List Ln, l.length ≤ 1073741824 ∧ args = [.sl 4 (l.map lnAv)] ∧ Q (.own true 47 4 ((ownL l).map dlAv)) h
def chargeL (year : Int) : List Dl → Fun → Bool → Fun × Bool × Int
 | [], f, w => (f, w, 0)
 | x :: r, f, w => if (chargeOf f year x.node ⟨x.orig, 0, 0⟩).2.2 ≠ 0 then ((chargeOf f year x.node ⟨x.orig, 0, 0⟩).1, false, (chargeOf f year x.node ⟨x.orig, 0, 0⟩).2.2)
   else chargeL year r (chargeOf f year x.node ⟨x.orig, 0, 0⟩).1 (w || (chargeOf f year x.node ⟨x.orig, 0, 0⟩).2.1)
attribute [local irreducible] chargeOf chargeL docsPut
def Ln.ok (x : Ln) : Prop := I64 x.fund ∧ I64 x.obj ∧ I64 x.node ∧ I64 x.amt
theorem ownL_ok {l : List Ln} (h : ∀ x ∈ l, x.ok) : ∀ x ∈ ownL l, x.ok := fun x hx => by
 obtain ⟨y, hy, rfl⟩ := zVa.1 hx
 obtain ⟨-, -, h3, h4⟩ := h y hy
 exact ⟨h3, h4, by show I64 0; unfold I64; omega, by show I64 0; unfold I64; omega⟩
end Go.Proofs.Lx
namespace Go.Proofs.Lx
open Go.Vm Go.RowKit
open Go.Sort (SWO flatK HoldsK)
def cmpI (a b : Int) : Int := if a < b then -1 else if a > b then 1 else 0
theorem cmpI_lt (a b : Int) : cmpI a b < 0 ↔ a < b := by
 unfold cmpI
 repeat' split
 all_goals simp
 all_goals omega
theorem cmpI_eq (a b : Int) (h1 : ¬ cmpI a b < 0) (h2 : ¬ cmpI b a < 0) : a = b := by
 rw [cmpI_lt] at h1 h2; omega
theorem cmpI_asymm (a b : Int) (h : cmpI a b < 0) : ¬ cmpI b a < 0 := by
 rw [cmpI_lt] at h ⊢; omega
theorem swo_ints {α : Type} (key : α → Int) : SWO (ltOf fun x y => cmpI (key x) (key y)) := by
 refine ⟨fun x => by simp [ltOf, cmpI], fun x y z h1 h2 => ?_, fun x y z h1 h2 => ?_⟩
 · simp only [ltOf, decide_eq_true_eq, cmpI_lt] at h1 h2 ⊢; omega
 · simp only [ltOf, decide_eq_false_iff_not, cmpI_lt] at h1 h2 ⊢; omega
theorem isNaN_calls (W : World) (a : Int) : Calls Tryz.prog 326 #[.int .i64 a] W fun e w' => e = .returned (.bool false) ∧ w' = W := by
 have hne : (a != a) = false := by simp
 go_enter Tryz.func326, Tryz.ntmps326
 go_wp2
 go_ret
 simp [hne]
theorem cmpI_calls (W : World) (a b : Int) : Calls Tryz.prog 283 #[.int .i64 a, .int .i64 b] W fun e w' => e = .returned (.int .i64 (cmpI a b)) ∧ w' = W := by
 have hn := fun a => isNaN_calls W a
 unfold cmpI
 go_enter Tryz.func283, Tryz.ntmps283
 go_wp2_with (go_at_call 326; refine (hn _).mono ?_; rintro e w' ⟨rfl, rfl⟩)
 all_goals go_ret
 all_goals first | exact ⟨rfl, rfl⟩ | trace_state
theorem funds1_calls (W : World) (x1 x2 x3 y1 y2 y3 : Value) (a b : Int) (o1 : x1.oneCell' = true) (o2 : x2.oneCell' = true) (o3 : x3.oneCell' = true) (o4 : y1.oneCell' = true) (o5 : y2.oneCell' = true) (o6 : y3.oneCell' = true) :
   Calls Tryz.prog 282 #[.agg #[.int .i64 a, x1, x2, x3], .agg #[.int .i64 b, y1, y2, y3]] W fun e w' => e = .returned (.int .i64 (cmpI a b)) ∧ ∃ q os', w' = Sort.grow (W.drewN q) os' := by
 have hcon := fun W' => cmpI_calls W' a b
 generalize cmpI a b = r at hcon ⊢
 go_enter Tryz.func282, Tryz.ntmps282
 go_wp2_with (go_at_call 283; refine (hcon _).mono ?_; rintro e w' ⟨rfl, rfl⟩)
 go_ret
 exact ⟨rfl, 0, _, by rw [Go.Sort.alloc_eq_grow, Go.Sort.alloc_eq_grow, Go.Sort.grow_grow]; rfl⟩
theorem sortW_heap4 {α : Type} [Inhabited α] (enc : α → List Value) (w : World) (b m : Nat) (dk : Array α) (os : Array Obj) :
   (∀ k, k < w.heap.size → k ≠ b → (sortWorldK enc 4 w b 0 m dk os).heap[k]? = w.heap[k]?) ∧ w.heap.size ≤ (sortWorldK enc 4 w b 0 m dk os).heap.size ∧
     ∀ vs e fr, w.heap[b]? = some (.cells vs e fr) → (sortWorldK enc 4 w b 0 m dk os).heap[b]? = some (.cells (Sort.putCells id 0 (flatK enc 4 dk) vs) e fr) := by
 have hs : (Sort.putRow id (Sort.ahead w m) b 0 (flatK enc 4 dk)).heap.size = w.heap.size := by simp [Sort.putRow, Sort.mapBlock, Sort.ahead]
 have hg : ∀ k, k < w.heap.size → (sortWorldK enc 4 w b 0 m dk os).heap[k]? = (w.heap.modify b (Sort.onCells (Sort.putCells id 0 (flatK enc 4 dk))))[k]? := fun k hk => by
   show ((Sort.putRow id (Sort.ahead w m) b 0 (flatK enc 4 dk)).heap ++ os)[k]? = _
   rw [Array.getElem?_append_left (by rw [hs]; exact hk)]; rfl
 refine ⟨fun k hk hne => ?_, ?_, fun vs e fr hb => ?_⟩
 · rw [hg k hk, Array.getElem?_modify, if_neg (fun e => hne e.symm)]
 · show w.heap.size ≤ ((Sort.putRow id (Sort.ahead w m) b 0 (flatK enc 4 dk)).heap ++ os).size
   rw [Array.size_append, hs]; omega
 · rw [hg b (lt_of_heap hb), Array.getElem?_modify, if_pos rfl, hb]; rfl
def sortLnSpec : Vm.Spec := fun args h Q => ∃ (l : List Ln) (h0 : Heap) (c e : Nat), args = [.osl h0.length 0 l.length c, .clo 282 []] ∧ h = h0 ++ [.row e (c * 4) (flat (l.map lnAv))] ∧ (l.map Ln.fund).Nodup ∧ l.length < 4611686018427387904 ∧ l.length ≤ c ∧
 ∀ l' : List Ln, l'.Perm l → l'.Pairwise (fun a b => cmpI a.fund b.fund < 0) → Q (.tup []) (h0 ++ [.row e (c * 4) (flat (l'.map lnAv))])
theorem flat_ln (l : List Ln) (i r : Nat) (hi : i < l.length) (hr : r < 4) : (flat (l.map lnAv))[i * 4 + r]? = (lnAv l[i]).cells[r]? :=
 flat_get (fun x hx => by obtain ⟨p, -, rfl⟩ := zVa.1 hx; rfl) (by rw [List.getElem?_map, zOa hi]; rfl) r hr
theorem does_sortLn : Does Tryz.prog 281 sortLnSpec := by
 refine ⟨⟨Tryz.f281, Tryz.func281, by kernel_rfl, by decide +kernel⟩, ?_⟩
 rintro args h Q ⟨l, h0, c, e, rfl, rfl, hnd, hln, hlc, hq⟩ w g vs hvs hrep hh hfr hlaid
 have hm : h0.length < g.n := by rw [← hh.n]; simp
 generalize hb : g.loc h0.length = b
 have hrow : RowE w g e (c * 4) (flat (l.map lnAv)) b := by
   have : ObjRep w g (.row e (c * 4) (flat (l.map lnAv))) (g.loc h0.length) := hh.obj h0.length _ (heap_last _ _)
   rw [hb] at this; exact this
 have hblt : b < w.heap.size := by rw [← hb]; exact hh.lt _ hm
 have hv0 : vs.getD 0 undef = .slice (some ⟨b, 0, none⟩) l.length c := by
   have := hrep 0 _ rfl
   generalize vs.getD 0 undef = v at this
   cases this with | osl => rw [hb]
 have hv1 : vs.getD 1 undef = .func (.func 282) #[] #[] := by
   have := hrep 1 _ rfl
   generalize vs.getD 1 undef = v at this
   cases this with | @clo _ _ cv hl hs => rw [Array.eq_empty_of_size_eq_zero (xs := cv) (by simpa using hl)]
 have hvs2 : vs = #[.slice (some ⟨b, 0, none⟩) l.length c, .func (.func 282) #[] #[]] := by
   have h2 : vs.size = 2 := hvs
   apply Array.ext
   · simpa using h2
   · intro i hi1 hi2
     have : i = 0 ∨ i = 1 := by omega
     rcases this with rfl | rfl
     · simpa [Array.getD, h2] using hv0
     · simpa [Array.getD, h2] using hv1
 subst hvs2
 -- what holds behind it, by where the cells went
 have fin : ∀ (w' : World) (l' : List Ln), l'.Perm l → l'.Pairwise (fun a b => cmpI a.fund b.fund < 0) → w'.os = w.os ∧ w'.tape = w.tape ∧ w'.output = w.output → w.heap.size ≤ w'.heap.size → (∀ k, k < w.heap.size → k ≠ b → w'.heap[k]? = w.heap[k]?) →
     (Keeps w g w' g → RowE w' g e (c * 4) (flat (l'.map lnAv)) b) →
     ∃ r h' g' v, Q r h' ∧ Ending.returned (.tuple #[]) = .returned v ∧ ResRep w' g' w.heap.size r v ∧ HeapRep w' g' h' ∧ Vm.Frame w g w' ∧
       g.n ≤ g'.n ∧ (∀ i, i < g.n → g'.loc i = g.loc i) ∧ (∀ b, b < w.heap.size → g'.pub b = g.pub b) ∧ (∀ i, i < g'.n → g.n ≤ i → w.heap.size ≤ g'.loc i) ∧ (∀ b, w'.heap.size ≤ b → g'.pub b = 0) := fun w' l' hp hs hw hsz hblk hrow' => by
   have hpub : g.pub b = 0 := by obtain ⟨-, -, -, -, h4, -⟩ := hrow; exact h4
   have hk : Keeps w g w' g := ⟨fun _ => zNa _, fun k j v hj hv => by
     have hkb : k ≠ b := fun e => by rw [e, hpub] at hj; omega
     have hkl : k < w.heap.size := by
       rcases zQb k w.heap.size with h | h
       · exact h
       · rw [hfr k h] at hj; omega
     rw [World.cell?_of_block (a := ⟨k, j, none⟩) (hblk k hkl hkb)]; exact hv, zNa _, fun _ _ => rfl⟩
   refine ⟨.tup [], h0 ++ [.row e (c * 4) (flat (l'.map lnAv))], g, .tuple #[], hq l' hp hs, rfl, .tup rfl (fun j u hu => by simp at hu), ?_, ?_, zNa _, fun _ _ => rfl, fun _ _ => rfl, fun i hi h1 => by omega, fun k hk' => hfr k (Nat.le_trans hsz hk')⟩
   · refine ⟨by rw [← hh.n]; simp, fun i hi => Nat.lt_of_lt_of_le (hh.lt i hi) hsz, hh.inj, fun i o ho => ?_⟩
     rcases zQb i h0.length with hi | hi
     · rw [List.getElem?_append_left hi] at ho
       have hig : i < g.n := by omega
       have hne : g.loc i ≠ b := fun e => by
         have := hh.inj i h0.length hig hm (e.trans hb.symm)
         omega
       exact (hh.obj i o (by rw [List.getElem?_append_left hi]; exact ho)).keepAt hk ⟨hblk _ (hh.lt i hig) hne, rfl⟩
     · have hie : i = h0.length := by
         rcases zQb i (h0.length + 1) with h | h
         · omega
         · rw [zPa (by simp; omega)] at ho; cases ho
       subst hie
       rw [heap_last] at ho
       cases ho
       show RowE _ _ _ _ _ (g.loc h0.length)
       rw [hb]; exact hrow' hk
   · exact ⟨hw.1, hw.2.1, hw.2.2, hsz, fun k hk' hno => hblk k hk' fun e => hno _ hm (hb.trans e.symm)⟩
 by_cases hn : l.length = 0
 · have hl : l = [] := List.eq_nil_of_length_eq_zero hn
   subst hl
   refine (AnyF.slices_SortFunc_none Tryz.sortLine (some ⟨b, 0, none⟩) c _ w).mono ?_
   rintro e' w' ⟨rfl, rfl⟩
   exact fin w' [] (.refl _) .nil ⟨rfl, rfl, rfl⟩ (zNa _) (fun _ _ _ => rfl) fun _ => hrow
 · obtain ⟨cur, a1, a2, a3, a4, a5, a6⟩ := hrow
   have hi : Inhabited (Fin l.length) := ⟨⟨0, by omega⟩⟩
   have hfl : (flat (l.map lnAv)).length = l.length * 4 := by
     rw [flat_length (sz := 4) (fun x hx => by obtain ⟨p, -, rfl⟩ := zVa.1 hx; rfl), zIa]
   let enc : Fin l.length → List Value := fun i => [cur.getD (i.1 * 4) undef, cur.getD (i.1 * 4 + 1) undef, cur.getD (i.1 * 4 + 2) undef, cur.getD (i.1 * 4 + 3) undef]
   have henc : ∀ (i : Fin l.length) (r : Nat), r < 4 → (enc i)[r]! = cur.getD (i.1 * 4 + r) undef := fun i r hr => by
     have : r = 0 ∨ r = 1 ∨ r = 2 ∨ r = 3 := by omega
     rcases this with rfl | rfl | rfl | rfl <;> rfl
   let cf : Fin l.length → Fin l.length → Int := fun i j => cmpI l[i].fund l[j].fund
   have hcell : ∀ j, j < l.length * 4 → (cur.getD j undef).oneCell' = true := fun j hj => a5 j (by omega)
   have hrepc : ∀ (i : Fin l.length) (r : Nat) (u : AV), r < 4 → (lnAv l[i]).cells[r]? = some u → Rep w g u (cur.getD (i.1 * 4 + r) undef) := fun i r u hr hu => a6 _ u (by rw [flat_ln l i.1 r i.2 hr]; exact hu)
   have h1 : ∀ x, ∀ v ∈ enc x, v.oneCell' = true := fun x v hv => by
     have hx := x.2
     simp only [enc, zXa, zUa, or_false] at hv
     rcases hv with rfl | rfl | rfl | rfl
     all_goals exact hcell _ (by omega)
   have hkW : ∀ m dk os, Keeps w g (sortWorldK enc 4 w b 0 m dk os) g := fun m dk os => by
     obtain ⟨q1, q2, q3⟩ := sortW_heap4 enc w b m dk os
     exact ⟨fun _ => zNa _, fun k j v hj hv => by
       have hkb : k ≠ b := fun e => by rw [e, a4] at hj; omega
       have hkl : k < w.heap.size := by
         rcases zQb k w.heap.size with h | h
         · exact h
         · rw [hfr k h] at hj; omega
       rw [World.cell?_of_block (a := ⟨k, j, none⟩) (q1 k hkl hkb)]; exact hv, zNa _, fun _ _ => rfl⟩
   have hcmp : CmpLays Tryz.prog 282 #[] enc 4 cf b 0 (zYa l.length).toArray.size w := fun m os dk _ x y => by
     have hx := x.2
     have hy := y.2
     have r1 := (rep_v ((hrepc x 0 (.v (.int .i64 l[x].fund)) (by decide) rfl).keep (hkW m dk os))).1
     have r2 := (rep_v ((hrepc y 0 (.v (.int .i64 l[y].fund)) (by decide) rfl).keep (hkW m dk os))).1
     have := funds1_calls (sortWorldK enc 4 w b 0 m dk os) (cur.getD (x.1 * 4 + 1) undef) (cur.getD (x.1 * 4 + 2) undef) (cur.getD (x.1 * 4 + 3) undef) (cur.getD (y.1 * 4 + 1) undef) (cur.getD (y.1 * 4 + 2) undef) (cur.getD (y.1 * 4 + 3) undef) l[x].fund l[y].fund
       (hcell _ (by omega)) (hcell _ (by omega)) (hcell _ (by omega)) (hcell _ (by omega)) (hcell _ (by omega)) (hcell _ (by omega))
     show Calls _ _ #[.agg #[cur.getD (x.1 * 4) undef, _, _, _], .agg #[cur.getD (y.1 * 4) undef, _, _, _]] _ _
     simp only [Nat.add_zero] at r1 r2
     rw [r1, r2]
     exact this
   have hdsz : (zYa l.length).toArray.size = l.length := by simp
   have hdg : ∀ i, (hi : i < l.length) → (zYa l.length).toArray[i]! = ⟨i, hi⟩ := fun i hi => by
     rw [getElem!_pos _ i (by simpa using hi)]; simp
   have hH : HoldsK enc 4 w b 0 (zYa l.length).toArray := fun j hj => by
     rw [Sort.size_flatK, hdsz] at hj
     rw [Nat.zero_add]
     refine ⟨?_, ?_⟩
     · rw [cell_of_row w b j cur e (0, 0) a1, Sort.get_flatK _ _ _ _ (by rw [hdsz]; exact hj), hdg _ (by omega), henc _ _ (by omega)]
       have e1 : j / 4 * 4 + j % 4 = j := by omega
       rw [e1]
       simp [Array.getD, show j < cur.size by omega]
     · simp [World.frozen?, a1]
   have hT : ∀ x y : Fin l.length, (ltOf cf) x y = false → (ltOf cf) y x = false → x = y := fun x y hx hy => by
     simp only [ltOf, decide_eq_false_iff_not] at hx hy
     have := cmpI_eq _ _ hx hy
     have hp := List.pairwise_iff_getElem.1 hnd
     apply Fin.ext
     rcases Nat.lt_trichotomy x.1 y.1 with h | h | h
     · exact absurd (by simpa using this) (hp x.1 y.1 (by simp) (by simp) h)
     · exact h
     · exact absurd (by simpa using this.symm) (hp y.1 x.1 (by simp) (by simp) h)
   have eg : ∀ args w, (callFunc 282 args).run Tryz.prog w = .ok (.enter 282 args) w := enters_of Tryz.func282 (by kernel_rfl) rfl
   have key := AnyQ.slices_SortFunc_total Tryz.sortLine 4 Tryz.isAgg45 Tryz.sizeOf45 enc (fun _ => rfl) h1 cf (swo_ints fun i : Fin l.length => l[i].fund) 282 #[] b 0 c (zYa l.length).toArray w eg hcmp hH hblt (by rw [hdsz]; exact hln) hT
   rw [hdsz] at key
   refine Calls.mono key ?_
   rintro e' w' ⟨rfl, m, os, rfl⟩
   have hperm := List.mergeSort_perm (zYa l.length) (fun x y => !(ltOf cf) y x)
   have hsort := List.pairwise_mergeSort (le := fun x y => !(ltOf cf) y x) (fun x y z h1 h2 => by
       have hs := (swo_ints fun i : Fin l.length => l[i].fund).ntrans z y x
       simp only [Bool.not_eq_true'] at h1 h2 ⊢
       exact hs h2 h1) (fun x y => by
       cases hxy : ltOf cf y x
       · simp
       · have : ltOf cf x y = false := by
           simp only [ltOf, decide_eq_true_eq, decide_eq_false_iff_not] at hxy ⊢
           exact cmpI_asymm _ _ hxy
         simp [this]) (zYa l.length)
   have htl : (zYa l.length).toArray.toList = zYa l.length := by simp
   rw [htl]
   generalize hds : List.mergeSort (zYa l.length) (fun x y => !(ltOf cf) y x) = ds at hperm hsort
   have hlen : ds.length = l.length := by rw [hperm.length_eq]; simp
   have hget : (zYa l.length).map (fun i => l[i]) = l := by
     apply List.ext_getElem
     · simp
     · intro i h1 h2; simp
   have hnodup : ds.Nodup := hperm.nodup_iff.2 (List.nodup_finRange _)
   obtain ⟨q1, q2, q3⟩ := sortW_heap4 enc w b m ds.toArray os
   refine fin _ (ds.map fun i => l[i]) ?_ ?_ ⟨rfl, rfl, rfl⟩ q2 q1 fun hk => ?_
   · have := hperm.map fun i : Fin l.length => l[i]
     rw [hget] at this; exact this
   · rw [List.pairwise_map]
     refine (hsort.and hnodup).imp fun {x y} hxy => ?_
     obtain ⟨hle, hne⟩ := hxy
     by_cases hlt : cf x y < 0
     · exact hlt
     · exact absurd (hT x y (by simpa [ltOf] using hlt) (by simpa using hle)) hne
   · refine ⟨_, q3 cur e (0, 0) a1, by simp [Sort.putCells, a2], by rw [flat_length (sz := 4) (fun x hx => by obtain ⟨p, -, rfl⟩ := zVa.1 hx; rfl)]; simp; omega, a4, fun j hj => ?_, fun j u hu => ?_⟩
     all_goals
       have hj' : j < l.length * 4 := by
         have hfl2 : (flat ((ds.map fun i => l[i]).map lnAv)).length = l.length * 4 := by
           rw [flat_length (sz := 4) (fun x hx => by obtain ⟨p, -, rfl⟩ := zVa.1 hx; rfl)]; simp [hlen]
         first
           | omega
           | (rcases zQb j (l.length * 4) with h' | h'
              · exact h'
              · rw [zPa (by omega)] at hu; cases hu)
       have hjd : j / 4 < ds.length := by omega
       have hnew : (Sort.putCells id 0 (flatK enc 4 ds.toArray) cur).getD j undef = cur.getD (ds[j / 4].1 * 4 + j % 4) undef := by
         have hjc : j < cur.size := by omega
         have e1 : (Sort.putCells id 0 (flatK enc 4 ds.toArray) cur).getD j undef = (flatK enc 4 ds.toArray)[j]! := by
           simp only [Sort.putCells]
           simp [Array.getD, hjc, hlen, hj']
         rw [e1, Sort.get_flatK _ _ _ _ (by simp [hlen]; exact hj'), get!_toArray_fin ds _ hjd, henc _ _ (by omega)]
     · rw [hnew]
       have := ds[j / 4].2
       exact hcell _ (by omega)
     · rw [hnew]
       have hu' : (lnAv l[ds[j / 4]]).cells[j % 4]? = some u := by
         have := flat_ln (ds.map fun i => l[i]) (j / 4) (j % 4) (by simpa using hjd) (by omega)
         rw [show j / 4 * 4 + j % 4 = j by omega, hu] at this
         rw [this]; simp
       exact (hrepc ds[j / 4] (j % 4) u (by omega) hu').keep hk
def sortLnNilSpec : Vm.Spec := fun args h Q => ∃ g, args = [.v (.slice none 0 0), .clo g []] ∧ Q (.tup []) h
theorem does_sortLnNil : Does Tryz.prog 281 sortLnNilSpec := by
 refine ⟨⟨Tryz.f281, Tryz.func281, by kernel_rfl, by decide +kernel⟩, ?_⟩
 rintro args h Q ⟨f, rfl, hq⟩ w g vs hvs hrep hh hfr hlaid
 have hv0 : vs.getD 0 undef = .slice none 0 0 := (rep_v (hrep 0 _ rfl)).1
 have hvs2 : vs = #[.slice none 0 0, vs.getD 1 undef] := by
   have h2 : vs.size = 2 := hvs
   apply Array.ext
   · simpa using h2
   · intro i hi1 hi2
     have : i = 0 ∨ i = 1 := by omega
     rcases this with rfl | rfl
     · simpa [Array.getD, h2] using hv0
     · simp [Array.getD, h2]
 rw [hvs2]
 refine (AnyF.slices_SortFunc_none Tryz.sortLine none 0 _ w).mono ?_
 rintro e' w' ⟨rfl, rfl⟩
 exact ⟨.tup [], h, g, .tuple #[], hq, rfl, .tup rfl (fun j u hu => by simp at hu), hh, ⟨rfl, rfl, rfl, zNa _, fun _ _ _ => rfl⟩, zNa _, fun _ _ => rfl, fun _ _ => rfl, fun i hi h1 => by omega, hfr⟩
end Go.Proofs.Lx
namespace Go.Proofs.Lx
open Go.Vm
attribute [local irreducible] awpArr awpBin awpMake awpAppend awpCvX awpStrOf awpBinX awpSlice awpBS awpStore awpAlloc awpCopy awpIndex awpDraw awpIdxX awpFa awpField awpLookup awpUpdate awpDelete awpClear awpRange awpNext awpEntry awpBuild
end Go.Proofs.Lx
namespace Go.Proofs.Lx
open Go.Vm
attribute [local irreducible] awpArr awpBin awpMake awpAppend awpCvX awpStrOf awpBinX awpSlice awpBS awpStore awpAlloc awpCopy awpIndex awpDraw awpIdxX awpFa awpField awpLookup awpUpdate awpDelete awpClear awpRange awpNext awpEntry awpBuild awpClearS awpIdxL
end Go.Proofs.Lx
namespace Go.Proofs.Lx
open Go.Vm
attribute [local irreducible] awpArr awpBin awpMake awpAppend awpCvX awpStrOf awpBinX awpSlice awpBS awpStore awpAlloc awpCopy awpIndex awpDraw awpIdxX awpFa awpField awpLookup awpUpdate awpDelete awpClear awpRange awpNext awpEntry awpBuild awpClearS awpIdxL awpTree appB awpIdxO eltA treeA
theorem both_rnew {h : Heap} {V : VId} (hV : isView h V noF) : Both (rNewH h) V (rNewId h) noF := by
 refine ⟨by unfold rNewH; exact hV.more _, isRef_new h, fun i hi hm => ?_⟩
 obtain ⟨chg, clk, mem, clk2, h1, h2, h3, -⟩ := hV
 have a1 := get_lt h1
 have a2 := get_lt h2
 have a3 := get_lt h3
 simp only [rNewId, zXa, zUa, or_false] at hi hm
 omega
theorem bool_neq {a b : Bool} {KV : Value → Prop} : awpBin Tryz.prog .neq 4 (.v (.bool a)) (.v (.bool b)) KV = KV (.bool (!(a == b))) := by simp [awpBin, Tryz.underlying4]
theorem Same.wide {h h' : Heap} {fp : List Nat} (hs : Same h h' []) : Same h h' fp := ⟨hs.1, fun i hi _ => hs.2 i hi (by simp)⟩
def intK (n : Int) : Value := .int .i64 n
def nOf (e : Ent) : Int := match e.key with
 | .int _ n => n
 | _ => 0
def mOf (e : Ent) : Int := match e.val with
 | .v (.int _ n) => n
 | _ => 0
theorem nOf_eq {e : Ent} {k : Int} (h : e.key = intK k) : nOf e = k := by unfold nOf; rw [h]; rfl
def BornI (es : List Ent) (clock : Nat) : Prop := ((es.map (·.born)).Nodup ∧ (es.map nOf).Nodup) ∧ ∀ e ∈ es, e.born < clock
theorem keyEq_int (a b : Int) : keyEq (intK a) (intK b) = (a == b) := by
 have h1 := keyEq_iff (d := .int .i64) (x := intK a) (y := intK b) rfl rfl
 cases h : keyEq (intK a) (intK b)
 · have : ¬ a = b := fun e => by rw [h1.2 (by rw [e])] at h; cases h
   simpa using this
 · have := h1.1 h
   simp only [intK, Value.int.injEq, true_and] at this
   simp [this]
theorem keys_int {es : List Ent} (h : ∀ e ∈ es, ∃ k, e.key = intK k) : ∀ e ∈ es, MapKept.IsKey (.int .i64) e.key := fun e he => by
 obtain ⟨k, hk⟩ := h e he
 rw [hk]; rfl
theorem mget_mputI {v : AV} {c : Nat} (k k' : Int) : ∀ {es : List Ent}, (∀ e ∈ es, ∃ k, e.key = intK k) →
   (mget (intK k') (mput (intK k) v c es)).map Ent.val = if k' = k then some v else (mget (intK k') es).map Ent.val
 | [], _ => by
   simp only [mput, mget, List.find?_cons, List.find?_nil, keyEq_int]
   by_cases h : k' = k
   · simp [h]
   · have h4 : (k' == k) = false := by simpa using h
     simp [h, h4]
 | e :: es, hk => by
   obtain ⟨q, hq⟩ := hk e (zLb ..)
   simp only [mput, hq, keyEq_int]
   by_cases h1 : k = q
   · subst h1
     simp only [beq_self_eq_true, if_true, mget, List.find?_cons, keyEq_int, hq]
     by_cases h : k' = k
     · simp [h]
     · have h4 : (k' == k) = false := by simpa using h
       simp [h, h4]
   · have h2 : (k == q) = false := by simpa using h1
     simp only [h2, Bool.false_eq_true, if_false, mget, List.find?_cons, hq, keyEq_int]
     by_cases h3 : k' = q
     · have : ¬ k' = k := fun e => h1 (e.symm.trans h3)
       simp [h3, Ne.symm h1]
     · have h4 : (k' == q) = false := by simpa using h3
       simp only [h4]
       exact mget_mputI k k' fun e he => hk e (zMb _ he)
theorem mput_keysI {q : Int} {v : AV} {c : Nat} : ∀ {es : List Ent}, (∀ e ∈ es, ∃ k, e.key = intK k) → (mput (intK q) v c es).map nOf = es.map nOf ∨ (q ∉ es.map nOf ∧ (mput (intK q) v c es).map nOf = es.map nOf ++ [q])
 | [], _ => .inr ⟨by simp, by simp [mput, nOf, intK]⟩
 | x :: es, hk => by
   obtain ⟨kx, hx⟩ := hk x (zLb ..)
   have hkx : nOf x = kx := nOf_eq hx
   simp only [mput]
   rw [hx, keyEq_int]
   by_cases hq : q = kx
   · left
     subst hq
     have e1 : nOf ⟨intK q, v, x.born⟩ = nOf x := by rw [hkx]; exact nOf_eq rfl
     simp [e1]
   · have hq' : (q == kx) = false := by simpa using hq
     rw [hq']
     simp only [Bool.false_eq_true, if_false, List.map_cons]
     rcases mput_keysI (q := q) (v := v) (c := c) (es := es) (fun e he => hk e (zMb _ he)) with h | ⟨h1, h2⟩
     · left; rw [h]
     · right
       refine ⟨?_, by rw [h2]; rfl⟩
       simp only [zXa, not_or]
       exact ⟨by rw [hkx]; exact hq, h1⟩
theorem BornI.put {q : Int} {v : AV} {c : Nat} {es : List Ent} (h : BornI es c) (hk : ∀ e ∈ es, ∃ k, e.key = intK k) : BornI (mput (intK q) v c es) (mclk (intK q) es c) := by
 have hkeys : ((mput (intK q) v c es).map nOf).Nodup := by
   rcases mput_keysI (q := q) (v := v) (c := c) hk with h' | ⟨h1, h2⟩
   · rw [h']; exact h.1.2
   · rw [h2, List.nodup_append]
     exact ⟨h.1.2, by simp, fun a ha b hb => by simp only [zJb] at hb; subst hb; intro e; exact h1 (e ▸ ha)⟩
 generalize intK q = k at hkeys ⊢
 have hb : ∀ b ∈ es.map (·.born), b < c := fun b hb => by obtain ⟨e, he, rfl⟩ := zVa.1 hb; exact h.2 e he
 have hc : c ≤ mclk k es c := by unfold mclk; split <;> omega
 rcases mput_born (k := k) (v := v) (c := c) (es := es) with h1 | ⟨h1, h2⟩
 · exact ⟨⟨by rw [h1]; exact h.1.1, hkeys⟩, fun e he => Nat.lt_of_lt_of_le (hb _ (h1 ▸ List.mem_map_of_mem he)) hc⟩
 · have h3 : mclk k es c = c + 1 := by simp [mclk, h1]
   refine ⟨⟨?_, hkeys⟩, fun e he => ?_⟩
   · rw [h2, List.nodup_append]
     refine ⟨h.1.1, by simp, fun a ha b hb' => ?_⟩
     simp only [zJb] at hb'
     have := hb a ha
     omega
   · have : e.born ∈ es.map (·.born) ++ [c] := h2 ▸ List.mem_map_of_mem he
     rw [h3]
     rcases List.mem_append.1 this with h4 | h4
     · have := hb _ h4; omega
     · simp only [zJb] at h4; omega
theorem mget_iffI {es : List Ent} (hk : ∀ e ∈ es, ∃ k, e.key = intK k) (hn : (es.map nOf).Nodup) {k : Int} {e : Ent} : mget (intK k) es = some e ↔ e ∈ es ∧ nOf e = k := by
 constructor
 · intro h
   have hm := mget_mem h
   obtain ⟨q, hq⟩ := hk e hm
   have := List.find?_some (p := fun (e : Ent) => keyEq (intK k) e.key) h
   rw [hq, keyEq_int] at this
   exact ⟨hm, by rw [nOf_eq hq]; exact (by simpa using this : k = q).symm⟩
 · rintro ⟨hm, hke⟩
   cases hf : mget (intK k) es with
   | none =>
     have := List.find?_eq_none.1 hf e hm
     obtain ⟨q, hq⟩ := hk e hm
     rw [hq, keyEq_int, ← hke, nOf_eq hq] at this
     simp at this
   | some e' =>
     have hm' := mget_mem hf
     obtain ⟨q, hq⟩ := hk e' hm'
     have := List.find?_some (p := fun (e : Ent) => keyEq (intK k) e.key) hf
     rw [hq, keyEq_int] at this
     have hkq : k = q := by simpa using this
     rw [inj_of_map hn hm hm' (by rw [hke, nOf_eq hq]; exact hkq)]
theorem w64_add (a b : Int) : w64 (w64 a + b) = w64 (a + b) := by
 show IntKind.i64.wrap _ = IntKind.i64.wrap _
 rw [wrap_i64_toInt, wrap_i64_toInt]
 congr 1
 show BitVec.ofInt 64 (IntKind.i64.wrap a + b) = _
 rw [wrap_i64_toInt, BitVec.ofInt_add, BitVec.ofInt_toInt, ← BitVec.ofInt_add]
theorem w64s_perm {a b : List Int} (h : a.Perm b) : w64s a = w64s b := by
 refine h.foldl_eq' (fun x _ y _ z => ?_) 0
 show w64 (w64 (z + x) + y) = w64 (w64 (z + y) + x)
 rw [w64_add, w64_add]
 congr 1; omega
def sumF (l : List Ln) (n : Int) : Int := w64s ((l.filter (·.fund == n)).map (·.amt))
theorem sumF_step (l : List Ln) (x : Ln) (n : Int) : sumF (l ++ [x]) n = if n = x.fund then w64 (sumF l n + x.amt) else sumF l n := by
 unfold sumF
 rw [List.filter_append, zRb]
 by_cases h : n = x.fund
 · subst h
   simp [List.filter_cons, w64s, List.foldl_append]
 · have : (x.fund == n) = false := by simpa using fun e => h e.symm
   simp [List.filter_cons, this, h]
theorem sumF_none {l : List Ln} {n : Int} (h : ¬ ∃ y ∈ l, y.fund = n) : sumF l n = 0 := by
 have : l.filter (·.fund == n) = [] := List.filter_eq_nil_iff.2 fun y hy => by simpa using fun e => h ⟨y, hy, e⟩
 unfold sumF
 rw [this]; rfl
theorem sumF_perm {l l' : List Ln} (h : l.Perm l') (n : Int) : sumF l n = sumF l' n := w64s_perm ((h.filter _).map _)
def IsFunds (l r : List Ln) : Prop := r.Pairwise (fun a b => a.fund < b.fund) ∧ ∀ x, x ∈ r ↔ ((∃ y ∈ l, y.fund = x.fund) ∧ x = ⟨x.fund, 0, 0, sumF l x.fund⟩)
theorem funds_same {l r r' : List Ln} (h : IsFunds l r) (h' : IsFunds l r') : r = r' := by
 have hp : r.Perm r' := (List.perm_ext_iff_of_nodup (h.1.imp fun {a b} hab e => by subst e; omega) (h'.1.imp fun {a b} hab e => by subst e; omega)).2 fun x => (h.2 x).trans (h'.2 x).symm
 exact hp.eq_of_pairwise (fun a b _ _ h1 h2 => by omega) h.1 h'.1
theorem IsFunds.perm {l l' r : List Ln} (h : IsFunds l r) (hp : l.Perm l') : IsFunds l' r :=
 ⟨h.1, fun x => (h.2 x).trans (by rw [sumF_perm hp]; exact and_congr_left' ⟨fun ⟨y, h1, h2⟩ => ⟨y, hp.mem_iff.1 h1, h2⟩, fun ⟨y, h1, h2⟩ => ⟨y, hp.mem_iff.2 h1, h2⟩⟩)⟩
theorem nodup_le {α : Type} [DecidableEq α] : ∀ {a b : List α}, a.Nodup → (∀ x ∈ a, x ∈ b) → a.length ≤ b.length
 | [], _, _, _ => by simp
 | x :: a, b, hn, h => by
   have hn := List.nodup_cons.1 hn
   have := nodup_le (b := b.erase x) hn.2 fun y hy => (List.mem_erase_of_ne fun e => hn.1 (by rw [← e]; exact hy)).2 (h y (zMb _ hy))
   rw [List.length_erase_of_mem (h x (zLb ..))] at this
   have hb : 0 < b.length := List.length_pos_of_mem (h x (zLb ..))
   simp only [zJa]; omega
theorem IsFunds.len {l r : List Ln} (h : IsFunds l r) : r.length ≤ l.length := by
 have := nodup_le (a := r.map Ln.fund) (b := l.map Ln.fund) (List.pairwise_map.2 (h.1.imp fun {a b} hab => by omega)) fun x hx => by
   obtain ⟨y, hy, rfl⟩ := zVa.1 hx
   obtain ⟨z, hz, e⟩ := ((h.2 y).1 hy).1
   rw [← e]; exact List.mem_map_of_mem hz
 simpa using this
def SumE (l : List Ln) (es : List Ent) (clk : Nat) : Prop := (∀ e ∈ es, ∃ n, e.key = intK n) ∧ BornI es clk ∧ es.length ≤ l.length ∧
 ∀ n, ((∃ y ∈ l, y.fund = n) → (mget (intK n) es).map Ent.val = some (.v (.int .i64 (sumF l n)))) ∧ ((¬ ∃ y ∈ l, y.fund = n) → mget (intK n) es = none)
theorem SumE.step {l : List Ln} {es : List Ent} {clk : Nat} (h : SumE l es clk) (x : Ln) : SumE (l ++ [x]) (mput (intK x.fund) (.v (.int .i64 (w64 (sumF l x.fund + x.amt)))) clk es) (mclk (intK x.fund) es clk) := by
 obtain ⟨h1, h2, h3, h4⟩ := h
 refine ⟨fun e he => ?_, h2.put h1, ?_, fun n => ?_⟩
 · rcases mput_mem he with h | ⟨h, -⟩
   · exact h1 e h
   · exact ⟨_, h⟩
 · have := mput_length (k := intK x.fund) (v := .v (.int .i64 (w64 (sumF l x.fund + x.amt)))) (c := clk) es
   rw [zIb]; simp only [zJa, zMa]; omega
 · have hg := mget_mputI (v := .v (.int .i64 (w64 (sumF l x.fund + x.amt)))) (c := clk) x.fund n h1
   rw [sumF_step]
   by_cases d : n = x.fund
   · subst d
     rw [if_pos rfl] at hg
     rw [if_pos rfl]
     exact ⟨fun _ => hg, fun hn => (hn ⟨x, by simp, rfl⟩).elim⟩
   · rw [if_neg d] at hg
     rw [if_neg d]
     have hiff : (∃ y ∈ l ++ [x], y.fund = n) ↔ ∃ y ∈ l, y.fund = n := ⟨fun ⟨y, hy, e⟩ => by
       rcases List.mem_append.1 hy with hy | hy
       · exact ⟨y, hy, e⟩
       · rw [zJb] at hy; subst hy; exact (d e.symm).elim, fun ⟨y, hy, e⟩ => ⟨y, by simp [hy], e⟩⟩
     rw [hiff]
     refine ⟨fun hn => by rw [hg]; exact (h4 n).1 hn, fun hn => ?_⟩
     have := (h4 n).2 hn
     rw [this] at hg
     cases hm : mget (intK n) (mput (intK x.fund) (.v (.int .i64 (w64 (sumF l x.fund + x.amt)))) clk es) with
     | none => rfl
     | some e => rw [hm] at hg; cases hg
def lnE (e : Ent) : Ln := ⟨nOf e, 0, 0, mOf e⟩
theorem SumE.val {l : List Ln} {es : List Ent} {clk : Nat} (h : SumE l es clk) {e : Ent} (he : e ∈ es) : e.key = intK (nOf e) ∧ e.val = .v (.int .i64 (sumF l (nOf e))) ∧ ∃ y ∈ l, y.fund = nOf e := by
 obtain ⟨n, hn⟩ := h.1 e he
 have hnn := nOf_eq hn
 have hg := (mget_iffI h.1 h.2.1.1.2 (k := nOf e) (e := e)).2 ⟨he, rfl⟩
 have hex : ∃ y ∈ l, y.fund = nOf e := Classical.byContradiction fun hc => by
   rw [(h.2.2.2 _).2 hc] at hg; cases hg
 have := (h.2.2.2 _).1 hex
 rw [hg] at this
 exact ⟨by rw [hnn]; exact hn, by simpa using this, hex⟩
theorem SumE.funds {l : List Ln} {es done : List Ent} {clk : Nat} {r : List Ln} (h : SumE l es clk) (hd : done.Perm es) (hp : r.Perm (done.map lnE)) (hs : r.Pairwise (fun a b => cmpI a.fund b.fund < 0)) : IsFunds l r := by
 refine ⟨hs.imp fun {a b} hab => (cmpI_lt _ _).1 hab, fun x => ?_⟩
 rw [hp.mem_iff, zVa]
 constructor
 · rintro ⟨e, he, rfl⟩
   obtain ⟨h1, h2, h3⟩ := h.val (hd.mem_iff.1 he)
   refine ⟨h3, ?_⟩
   have hm : mOf e = sumF l (nOf e) := by unfold mOf; rw [h2]
   simp only [lnE, hm]
 · rintro ⟨hex, hx⟩
   have := (h.2.2.2 _).1 hex
   cases hm : mget (intK x.fund) es with
   | none => rw [hm] at this; cases this
   | some e =>
     obtain ⟨he, hn⟩ := (mget_iffI h.1 h.2.1.1.2).1 hm
     refine ⟨e, hd.mem_iff.2 he, ?_⟩
     obtain ⟨h1, h2, h3⟩ := h.val he
     have hmm : mOf e = sumF l (nOf e) := by unfold mOf; rw [h2]
     rw [hx]
     simp only [lnE, hmm, hn]
theorem SumE.nodup {l : List Ln} {es done : List Ent} {clk : Nat} (h : SumE l es clk) (hd : done.Perm es) : ((done.map lnE).map Ln.fund).Nodup := by
 rw [List.map_map]
 have : (done.map nOf).Nodup := ((hd.map nOf).nodup_iff).2 h.2.1.1.2
 exact this
theorem does_sortLine : Does Tryz.prog 281 (orS sortLnSpec sortLnNilSpec) := does_or does_sortLn does_sortLnNil
def fundsSpec : Vm.Spec := fun args h Q => ∃ l : List Ln, l.length ≤ 1073741824 ∧ args = [.sl 4 (l.map lnAv)] ∧ ∀ r h', IsFunds l r → Same h h' [] → Q (.own true 45 4 (r.map lnAv)) h'
theorem does_funds : Does Tryz.prog 227 fundsSpec := by
 refine dA (good_cons does_sortLine good_nil) Tryz.func227 rfl (by decide +kernel) ?_
 rintro args h Q ⟨l, hl, rfl, hq⟩
 refine ⟨by simp [Tryz.f227], ?_⟩
 simp -dsimp only [Vm.G, zA, zB, zC, zD, zE, zF, q227.1]
 refine awp_loop (fun m s h' => ∃ (i : Nat) (es : List Ent) (clk : Nat), i + m = l.length ∧ SumE (l.take i) es clk ∧ h' = h ++ [.map es clk] ∧ s = mk [(3, .mp h.length), (10, .sl 4 (l.map lnAv)), (11, .v (.int .i64 l.length)), (12, .v (.int .i64 (i : Nat)))])
   l.length _ (le_mk _ ?_) ⟨0, [], 0, by omega, ⟨by simp, ⟨⟨.nil, .nil⟩, by simp⟩, by simp, fun n => ⟨fun ⟨y, hy, _⟩ => by simp at hy, fun _ => rfl⟩⟩, rfl, rfl⟩ ?_
 · simp only [Vm.D]
   try simp -dsimp only [Vm.G, zA, zB, zC, zD, zE, zF, q227.1]
   repeat' first | exact .refl _ | exact .nil _ _ _ (by decide) | refine ⟨?_, ?_⟩
 · rintro m s h' ⟨i, es, clk, hi, hE, rfl, rfl⟩
   simp -dsimp only [Vm.G, zA, zB, zC, zD, zE, zF, q227.1]
   refine cond_intro (fun hcc => ?_) (fun hcc => ?_)
   · have hlt : i < l.length := by have := of_decide_eq_true hcc; omega
     have hw := hwN i (by omega)
     have hst := hE.step l[i]
     rw [← List.take_succ_eq_append_getElem hlt] at hst
     obtain ⟨x, hx⟩ : ∃ x, l[i] = x := ⟨_, rfl⟩
     have hel := hE.2.2.2 x.fund
     rw [hx] at hst
     simp -dsimp only [Vm.G, zA, zB, zC, zD, zE, zF, q227.1]
     refine idx_map lnAv l i hlt ?_
     simp only [hx, lnAv, lnCells]
     simp -dsimp only [Vm.G, zA, zB, zC, zD, zE, zF, q227.1, AV.cells]
     have fin : ∀ a : Int, a = sumF (l.take i) x.fund → SumE (l.take (i + 1)) (mput (intK x.fund) (.v (.int .i64 (IntKind.i64.wrap (a + x.amt)))) clk es) (mclk (intK x.fund) es clk) := fun a ha => by rw [ha]; exact hst
     refine lookup_intro mt330 z3 es clk (heap_last _ _) rfl (keys_int hE.1) (fun e he => ?_) (fun he => ?_)
     · have he : mget (intK x.fund) es = some e := he
       have hex : ∃ y ∈ l.take i, y.fund = x.fund := Classical.byContradiction fun hc => by rw [hel.2 hc] at he; cases he
       have hv := hel.1 hex
       rw [he] at hv
       have hv : e.val = .v (.int .i64 (sumF (l.take i) x.fund)) := by simpa using hv
       have f2 := fin _ rfl
       simp -dsimp only [Vm.G, zA, zB, zC, zD, zE, zF, q227.1, hv, lookRes, cst, Bool.false_eq_true, if_false]
       refine update_intro mt330 es clk (heap_last _ _) (kv := .int .i64 x.fund) (by rfl) (keys_int hE.1) ?_
       simp -dsimp only [Vm.G, zA, zB, zC, zD, zE, zF, q227.1, heap_setLast]
       refine kept_intro ⟨l.length - (i + 1), by omega, _, le_mk [(3, .mp h.length), (10, .sl 4 (l.map lnAv)), (11, .v (.int .i64 l.length)), (12, .v (.int .i64 (i + 1 : Nat)))] ?_, i + 1, _, _, by omega, f2, rfl, rfl⟩
       simp only [Vm.D, hw]
       try simp -dsimp only [Vm.G, zA, zB, zC, zD, zE, zF, q227.1, hw]
       repeat' first | exact .refl _ | exact .nil _ _ _ (by decide) | refine ⟨?_, ?_⟩
     · have hne : ¬ ∃ y ∈ l.take i, y.fund = x.fund := fun hc => by have := hel.1 hc; rw [show mget (intK x.fund) es = none from he] at this; cases this
       have f2 := fin 0 (sumF_none hne).symm
       have k0 : ∀ v b, lookRes false v b = v := fun _ _ => rfl
       simp -dsimp only [Vm.G, zA, zB, zC, zD, zE, zF, q227.1, k0]
       refine update_intro mt330 es clk (heap_last _ _) (kv := .int .i64 x.fund) (by rfl) (keys_int hE.1) ?_
       simp -dsimp only [Vm.G, zA, zB, zC, zD, zE, zF, q227.1, heap_setLast]
       refine kept_intro ⟨l.length - (i + 1), by omega, _, le_mk [(3, .mp h.length), (10, .sl 4 (l.map lnAv)), (11, .v (.int .i64 l.length)), (12, .v (.int .i64 (i + 1 : Nat)))] ?_, i + 1, _, _, by omega, f2, rfl, rfl⟩
       simp only [Vm.D, hw]
       try simp -dsimp only [Vm.G, zA, zB, zC, zD, zE, zF, q227.1, hw]
       repeat' first | exact .refl _ | exact .nil _ _ _ (by decide) | refine ⟨?_, ?_⟩
   · have hge : ¬ i < l.length := by have := of_decide_eq_false hcc; omega
     rw [zTa (by omega)] at hE
     have g0 := heap_last h (AObj.map es clk)
     have hsame := Same.more h [AObj.map es clk]
     generalize h ++ [AObj.map es clk] = hh at g0 hsame ⊢
     simp -dsimp only [Vm.G, zA, zB, zC, zD, zE, zF, q227.1]
     refine range_intro mt330 es clk g0 ?_
     simp -dsimp only [Vm.G, zA, zB, zC, zD, zE, zF, q227.1]
     refine awp_loop (fun m s h' => ∃ done : List Ent, m = (leftE es (done.map (·.born))).length ∧ done.length + m ≤ es.length ∧ h' = hh ∧ (∀ d ∈ done, d ∈ es) ∧ (done.map (·.born)).Nodup ∧ s = mk [(6, .own true 45 4 (((done).map lnE).map lnAv)), (25, .iter h.length clk ((done).map (·.born)) clk)])
       es.length _ (le_mk _ ?_) ⟨[], (congrArg List.length (List.filter_eq_self.2 fun _ _ => rfl)).symm, by simp, rfl, by simp, by simp, rfl⟩ ?_
     · simp only [Vm.D]
       try simp -dsimp only [Vm.G, zA, zB, zC, zD, zE, zF, q227.1]
       repeat' first | exact .refl _ | exact .nil _ _ _ (by decide) | refine ⟨?_, ?_⟩
     · clear hi hcc hge
       rintro m s h' ⟨done, rfl, hlen, rfl, hd, hdn, rfl⟩
       simp -dsimp only [Vm.G, zA, zB, zC, zD, zE, zF, q227.1]
       refine next_intro es clk g0 (fun e he => hE.2.1.2 e he) (zNa _) (fun hlf => ?_) (fun e he => ?_)
       · have hD : done.Perm es := seen_all hE.2.1.1.1 hd hdn hlf
         have hnd := hE.nodup hD
         have hel := hE.2.2.1
         have hdl := hD.length_eq
         simp -dsimp only [Vm.G, zA, zB, zC, zD, zE, zF, q227.1]
         refine call_in _ _ _ ?_
         simp -dsimp only [Vm.G, zA, zB, zC, zD, zE, zF, q227.1, callI_eq, ownSl_own, ownSl_alias]
         refine callI_tup (S := orS sortLnSpec sortLnNilSpec) (fun xs' => ∃ l' : List Ln, xs' = l'.map lnAv ∧ l'.Perm (done.map lnE) ∧ l'.Pairwise (fun a b => cmpI a.fund b.fund < 0)) rfl
           (fun xs' hx => ?_) (fun hx => ⟨?_, fun Q' hq' => .inr ⟨_, rfl, hq'⟩⟩) (fun c hc Q' hq' => .inl ⟨done.map lnE, _, c, 45, by rw [zIa], rfl, hnd, by rw [zIa]; omega, by rw [zIa] at hc; exact hc, fun l' hp hs => hq' _ _ ⟨l', rfl, hp, hs⟩ ?_⟩) (fun xs' hx => ?_)
         · obtain ⟨l', rfl, hp, hs⟩ := hx
           exact ⟨fun x hx => (hp.map lnAv).mem_iff.1 hx, by rw [zIa, zIa, hp.length_eq]⟩
         · have hnil : done.map lnE = [] := List.map_eq_nil_iff.1 hx
           exact ⟨[], rfl, by rw [hnil], .nil⟩
         · rw [zTa]
           rw [flat_length (sz := 4) (fun x hx => by obtain ⟨p, -, rfl⟩ := zVa.1 hx; rfl)]
           exact zNa _
         · obtain ⟨l', rfl, hp, hs⟩ := hx
           simp -dsimp only [Vm.G, zA, zB, zC, zD, zE, zF, q227.1]
           exact hq l' _ (hE.funds hD hp hs) hsame
       · obtain ⟨hem, heb⟩ := left_mem he
         obtain ⟨hk, hv, hex⟩ := hE.val hem
         obtain ⟨hd2, hdn2⟩ := done_more he hd hdn
         have hless := left_less he
         have emap : (done ++ [e]).map (·.born) = done.map (·.born) ++ [e.born] := by simp
         have hln : lnE e = ⟨nOf e, 0, 0, sumF l (nOf e)⟩ := by unfold lnE mOf; rw [hv]
         have hlnn := hE.2.2.1
         simp -dsimp only [Vm.G, zA, zB, zC, zD, zE, zF, q227.1]
         refine entry_intro es clk e g0 (find_born hE.2.1.1.1 hem) ?_
         simp only [hk, hv, intK]
         simp -dsimp only [Vm.G, zA, zB, zC, zD, zE, zF, q227.1]
         refine bs_intro zr45 (by decide) (by decide) rfl rfl (by simp [solid, AV.cells]) ?_
         simp -dsimp only [Vm.G, zA, zB, zC, zD, zE, zF, q227.1]
         refine app_sl Tryz.underlying33 (by simp [AV.cells]) (by simp only [zIa, zJa, zMa]; omega) ?_
         simp -dsimp only [Vm.G, zA, zB, zC, zD, zE, zF, q227.1]
         refine kept_intro ⟨_, hless, _, le_mk [(6, .own true 45 4 (((done ++ [e]).map lnE).map lnAv)), (25, .iter h.length clk ((done ++ [e]).map (·.born)) clk)] ?_, done ++ [e], by rw [emap], by rw [zIb]; simp only [zJa, zMa]; omega, rfl, hd2, hdn2, rfl⟩
         simp only [Vm.D, zRb, List.map_cons, zSb, hln, lnAv, lnCells]
         try simp -dsimp only [Vm.G, zA, zB, zC, zD, zE, zF, q227.1, zRb, List.map_cons, zSb, hln, lnAv, lnCells]
         repeat' first | exact .refl _ | exact .nil _ _ _ (by decide) | refine ⟨?_, ?_⟩
def yr20 (n : Nd) : Nd := { n with year := 2020 }
def putN (f : Fun) (n : Nd) : Fun := upd f (ndK (yr20 n)) (some (ndV (yr20 n)))
def begunF (l : List Nd) : Fun := l.foldl putN (openOf noF 2020).1
theorem begunF_n (l : List Nd) : (begunF l).n ≤ l.length + 1 := by
 have : ∀ (l : List Nd) (f : Fun), (l.foldl putN f).n = f.n + l.length := by
   intro l
   induction l with
   | nil => intro f; rfl
   | cons x r ih =>
     intro f
     rw [List.foldl_cons, ih]
     show f.n + 1 + r.length = _
     simp only [zJa]; omega
 unfold begunF
 rw [this]
 have := open_n noF 2020
 have h0 : noF.n = 0 := rfl
 omega
end Go.Proofs.Lx
namespace Go.Proofs.Lx
open Go.Vm
def tot {α : Type} (g : α → Int) : List α → Int
 | [] => 0
 | x :: r => g x + tot g r
theorem tot_append {α : Type} (g : α → Int) : ∀ a b : List α, tot g (a ++ b) = tot g a + tot g b
 | [], b => by show tot g b = 0 + _; omega
 | x :: r, b => by
   show g x + tot g (r ++ b) = g x + tot g r + tot g b
   rw [tot_append g r b]; omega
abbrev Bk := Int × Int
def ck (x : Ln) : Bk := (clampK x.fund, clampK x.obj)
def lk (x : Ln) : Bk := (x.fund, x.obj)
end Go.Proofs.Lx
namespace Go.Proofs.Lx
open Go.Vm
attribute [local irreducible] awpArr awpBin awpMake awpAppend awpCvX awpStrOf awpBinX awpSlice awpBS awpStore awpAlloc awpCopy awpIndex awpDraw awpIdxX awpFa awpField awpLookup awpUpdate awpDelete awpClear awpRange awpNext awpEntry awpBuild awpClearS awpIdxL awpTree appB awpIdxO eltA treeA
end Go.Proofs.Lx
namespace Go.Proofs.Lx
open Go.Vm
def owedL (x : Ln) : List Ln := if x.amt > 0 then [⟨x.fund, 2900, 0, w64 (0 - x.amt)⟩] else if x.amt < 0 then [⟨x.fund, 1900, 0, w64 (0 - x.amt)⟩] else []
def balanceL (r : List Ln) : List Ln := r.flatMap owedL
end Go.Proofs.Lx
namespace Go.Proofs.Lx
open Go.Vm
attribute [local irreducible] awpArr awpBin awpMake awpAppend awpCvX awpStrOf awpBinX awpSlice awpBS awpStore awpAlloc awpCopy awpIndex awpDraw awpIdxX awpFa awpField awpLookup awpUpdate awpDelete awpClear awpRange awpNext awpEntry awpBuild awpClearS awpIdxL awpTree appB awpIdxO eltA treeA
def Dl.zero : Dl := ⟨0, 0, 0, 0⟩
def Dc.zero : Dc := ⟨0, 0, 0, 0, 0⟩
def dcOf (l : List Int) : Dc := ⟨l.getD 0 0, l.getD 1 0, l.getD 2 0, l.getD 3 0, l.getD 4 0⟩
def dlOf (l : List Int) : Dl := ⟨l.getD 2 0, l.getD 3 0, l.getD 4 0, l.getD 5 0⟩
def docOf (key val : List UInt8) : Option Dc := (numsPair 68 1 4 key val).map dcOf
def lineOf (key val : List UInt8) : Option Dl := (numsPair 76 2 4 key val).map dlOf
def docOfSpec : Vm.Spec := fun args h Q => ∃ key val : List UInt8, key.length ≤ 4611686018427387904 ∧ val.length ≤ 4611686018427387904 ∧ args = [.agg [.sl 1 (key.map encB), .sl 1 (val.map encB)]] ∧
 (∀ d, docOf key val = some d → Q (.tup [.agg (dcCells d), .v (.bool true)]) h) ∧ (docOf key val = none → Q (.tup [.agg (dcCells .zero), .v (.bool false)]) h)
theorem does_docOf : Does Tryz.prog 219 docOfSpec := by
 refine dA (good_cons does_documents (good_cons does_nums good_nil)) Tryz.func219 rfl (by decide +kernel) ?_
 rintro args h Q ⟨key, val, hk, hv, rfl, hq1, hq2⟩
 refine ⟨by simp [Tryz.f219], ?_⟩
 unfold docOf at hq1 hq2
 simp only [dcCells, Dc.zero] at hq2
 simp -dsimp only [Vm.G, zA, zB, zC, zD, zE, zF, q219.1]
 refine draw_cont [1] (.take 1 (.alt 0 (.alt 2 (.take 3 (.take 4 (.take 5 (.alt 6 (.alt 7 (.done) .stop) .stop)))) .stop) .stop)) (fun s h' => h' = h ∧ s 2 = .box (dcCells .zero) ∧ ((∃ l, numsPair 68 1 4 key val = some l ∧ s 4 = .own true 3 1 (l.map encI) ∧ s 5 = .v (.bool true)) ∨ (numsPair 68 1 4 key val = none ∧ s 5 = .v (.bool false)))) (by kernel_rfl) (by kernel_rfl) (by kernel_rfl) (by decide) ?_ ?_
 · simp -dsimp only [Vm.G, zA, zB, zC, zD, zE, zF, q219.1]
   refine call_one (S := tabSpec 68 1 4) rfl _ GaL.rfl ⟨rfl, ?_⟩
   simp -dsimp only [Vm.G, zA, zB, zC, zD, zE, zF, q219.1]
   refine call_one (S := numsSpec) rfl _ GaL.rfl ⟨68, 1, 4, key, val, by decide, hk, hv, rfl, fun l hl => ?_, fun hl => ?_, fun hl l => ?_⟩
   · simp -dsimp only [Vm.G, zA, zB, zC, zD, zE, zF, q219.1]
     exact ⟨rfl, .inl ⟨l, hl, rfl, trivial⟩⟩
   · simp -dsimp only [Vm.G, zA, zB, zC, zD, zE, zF, q219.1]
     exact ⟨rfl, .inr ⟨hl, trivial⟩⟩
   · simp -dsimp only [Vm.G, zA, zB, zC, zD, zE, zF, q219.1]
     exact ⟨rfl, .inr ⟨hl, trivial⟩⟩
 · rintro s h' ⟨rfl, hs2, ⟨l, hl, hs4, hs5⟩ | ⟨hl, hs5⟩⟩
   · rw [hl] at hq1
     have hlen := numsPair_length hl
     have hq1' := hq1 (dcOf l) rfl
     clear hq1 hq2 hl
     simp only [dcCells, Dc.zero] at hs2
     match l, hlen with
     | [a0, a1, a2, a3, a4], _ =>
     simp -dsimp only [Vm.G, zA, zB, zC, zD, zE, zF, q219.1, hs5]
     refine draw_cont [4] (.take 0 (.take 1 (.take 2 (.take 3 (.take 4 (.take 5 (.take 6 (.take 7 (.take 8 (.take 9 (.take 10 (.take 11 (.take 12 (.take 13 (.take 14 (.alt 15 (.alt 16 (.alt 17 (.done) .stop) .stop) .stop)))))))))))))))) (fun s h'' => h'' = h' ∧ s 2 = .box [.v (.int .i64 a0), .v (.int .i64 a1), .v (.int .i64 a2), .v (.int .i64 a3), .v (.int .i64 a4)] ∧ s 3 = .v (.bool true)) (by kernel_rfl) (by kernel_rfl) (by kernel_rfl) (by decide) ?_ ?_
     · simp -dsimp only [Vm.G, zA, zB, zC, zD, zE, zF, q219.1, idx_lit, idxE_some, Int.reduceToNat, Int.reduceLE, decide_true, eq_self, hs2, hs4, hs5, encI]
       repeat' first | rfl | exact True.intro | refine And.intro ?_ ?_
     · rintro s2 h2 ⟨rfl, g2, g3⟩
       simp -dsimp only [Vm.G, zA, zB, zC, zD, zE, zF, q219.1, g2, g3]
       exact hq1'
   · rw [hl] at hq2
     simp only [dcCells, Dc.zero] at hs2
     simp -dsimp only [Vm.G, zA, zB, zC, zD, zE, zF, q219.1, hs2, hs5]
     exact hq2 rfl
def lineOfSpec : Vm.Spec := fun args h Q => ∃ key val : List UInt8, key.length ≤ 4611686018427387904 ∧ val.length ≤ 4611686018427387904 ∧ args = [.agg [.sl 1 (key.map encB), .sl 1 (val.map encB)]] ∧
 (∀ d, lineOf key val = some d → Q (.tup [.agg (dlCells d), .v (.bool true)]) h) ∧ (lineOf key val = none → Q (.tup [.agg (dlCells .zero), .v (.bool false)]) h)
theorem does_lineOf : Does Tryz.prog 220 lineOfSpec := by
 refine dA (good_cons does_docLines (good_cons does_nums good_nil)) Tryz.func220 rfl (by decide +kernel) ?_
 rintro args h Q ⟨key, val, hk, hv, rfl, hq1, hq2⟩
 refine ⟨by simp [Tryz.f220], ?_⟩
 unfold lineOf at hq1 hq2
 simp only [dlCells, Dl.zero] at hq2
 simp -dsimp only [Vm.G, zA, zB, zC, zD, zE, zF, q220.1]
 refine draw_cont [1] (.take 1 (.alt 0 (.alt 2 (.take 3 (.take 4 (.take 5 (.alt 6 (.alt 7 (.done) .stop) .stop)))) .stop) .stop)) (fun s h' => h' = h ∧ s 2 = .box (dlCells .zero) ∧ ((∃ l, numsPair 76 2 4 key val = some l ∧ s 4 = .own true 3 1 (l.map encI) ∧ s 5 = .v (.bool true)) ∨ (numsPair 76 2 4 key val = none ∧ s 5 = .v (.bool false)))) (by kernel_rfl) (by kernel_rfl) (by kernel_rfl) (by decide) ?_ ?_
 · simp -dsimp only [Vm.G, zA, zB, zC, zD, zE, zF, q220.1]
   refine call_one (S := tabSpec 76 2 4) rfl _ GaL.rfl ⟨rfl, ?_⟩
   simp -dsimp only [Vm.G, zA, zB, zC, zD, zE, zF, q220.1]
   refine call_one (S := numsSpec) rfl _ GaL.rfl ⟨76, 2, 4, key, val, by decide, hk, hv, rfl, fun l hl => ?_, fun hl => ?_, fun hl l => ?_⟩
   · simp -dsimp only [Vm.G, zA, zB, zC, zD, zE, zF, q220.1]
     exact ⟨rfl, .inl ⟨l, hl, rfl, trivial⟩⟩
   · simp -dsimp only [Vm.G, zA, zB, zC, zD, zE, zF, q220.1]
     exact ⟨rfl, .inr ⟨hl, trivial⟩⟩
   · simp -dsimp only [Vm.G, zA, zB, zC, zD, zE, zF, q220.1]
     exact ⟨rfl, .inr ⟨hl, trivial⟩⟩
 · rintro s h' ⟨rfl, hs2, ⟨l, hl, hs4, hs5⟩ | ⟨hl, hs5⟩⟩
   · rw [hl] at hq1
     have hlen := numsPair_length hl
     have hq1' := hq1 (dlOf l) rfl
     clear hq1 hq2 hl
     simp only [dlCells, Dl.zero] at hs2
     match l, hlen with
     | [a0, a1, a2, a3, a4, a5], _ =>
     simp -dsimp only [Vm.G, zA, zB, zC, zD, zE, zF, q220.1, hs5]
     refine draw_cont [4] (.take 0 (.take 1 (.take 2 (.take 3 (.take 4 (.take 5 (.take 6 (.take 7 (.take 8 (.take 9 (.take 10 (.take 11 (.alt 12 (.alt 13 (.alt 14 (.done) .stop) .stop) .stop))))))))))))) (fun s h'' => h'' = h' ∧ s 2 = .box [.v (.int .i64 a2), .v (.int .i64 a3), .v (.int .i64 a4), .v (.int .i64 a5)] ∧ s 3 = .v (.bool true)) (by kernel_rfl) (by kernel_rfl) (by kernel_rfl) (by decide) ?_ ?_
     · simp -dsimp only [Vm.G, zA, zB, zC, zD, zE, zF, q220.1, idx_lit, idxE_some, Int.reduceToNat, Int.reduceLE, decide_true, eq_self, hs2, hs4, hs5, encI]
       repeat' first | rfl | exact True.intro | refine And.intro ?_ ?_
     · rintro s2 h2 ⟨rfl, g2, g3⟩
       simp -dsimp only [Vm.G, zA, zB, zC, zD, zE, zF, q220.1, g2, g3]
       exact hq1'
   · rw [hl] at hq2
     simp only [dlCells, Dl.zero] at hs2
     simp -dsimp only [Vm.G, zA, zB, zC, zD, zE, zF, q220.1, hs2, hs5]
     exact hq2 rfl
def fetchSpec : Vm.Spec := fun args h Q => ∃ (V : VId) (f : Fun) (tag : UInt8) (l : List Int), l.length ≤ 15 ∧ args = [.agg [.ptr V.iv 0], .v (.int .u8 tag.toNat), .sl 1 (l.map encI)] ∧ isView h V f ∧
 (∀ v, f (keyOf tag l) = some v → Q (.tup [.agg [.sl 1 ((keyOf tag l).map encB), .sl 1 (v.map encB)], .v (.bool true)]) h) ∧ (f (keyOf tag l) = none → Q (.tup [.agg [.sl 1 ((keyOf tag l).map encB), .sl 1 []], .v (.bool false)]) h)
theorem does_fetch : Does Tryz.prog 218 fetchSpec := by
 refine dA (good_cons does_key (good_cons does_vgetW good_nil)) Tryz.func218 rfl (by decide +kernel) ?_
 rintro args h Q ⟨V, f, tag, l, hl, rfl, hV, hq1, hq2⟩
 refine ⟨by simp [Tryz.f218], ?_⟩
 simp -dsimp only [Vm.G, zA, zB, zC, zD, zE, zF, q218.1]
 refine call_one (S := keySpec) rfl _ GaL.rfl ⟨tag, l, by omega, rfl, ?_⟩
 simp -dsimp only [Vm.G, zA, zB, zC, zD, zE, zF, q218.1]
 refine call_one (S := vgetWSpec) rfl _ GaL.rfl ⟨V, f, keyOf tag l, rfl, hV, fun v hf => ?_, fun hf => ?_⟩
 · simp -dsimp only [Vm.G, zA, zB, zC, zD, zE, zF, q218.1]
   exact hq1 v hf
 · simp -dsimp only [Vm.G, zA, zB, zC, zD, zE, zF, q218.1]
   exact hq2 hf
def headOk (id : Int) (d : Dc) : Bool := (d.id == id) && (decide (d.lines ≥ 1) && decide (d.lines ≤ 6))
def docHead (f : Fun) (id : Int) : Option Dc := (f (dcK id)).bind fun v => (docOf (dcK id) v).bind fun d => if headOk id d then some d else none
def lineAt (f : Fun) (id i : Int) : Option Dl := (f (dlK id i)).bind fun v => lineOf (dlK id i) v
def docSpec : Vm.Spec := fun args h Q => ∃ (V : VId) (f : Fun) (id : Int), args = [.agg [.ptr V.iv 0], .v (.int .i64 id)] ∧ isView h V f ∧
 (∀ d, docHead f id = some d → Q (.tup [.agg (dcCells d), .v (.bool true)]) h) ∧ (docHead f id = none → ∀ d : Dc, Q (.tup [.agg (dcCells d), .v (.bool false)]) h)
theorem does_doc : Does Tryz.prog 173 docSpec := by
 refine dA (good_cons does_fetch (good_cons does_docOf good_nil)) Tryz.func173 rfl (by decide +kernel) ?_
 rintro args h Q ⟨V, f, id, rfl, hV, hq1, hq2⟩
 refine ⟨by simp [Tryz.f173], ?_⟩
 have hk := dcK_length id
 unfold docHead at hq1 hq2
 simp -dsimp only [Vm.G, zA, zB, zC, zD, zE, zF, q173.1]
 refine bs_intro zr3 (by decide) (by decide) rfl rfl (by simp [solid, AV.cells]) ?_
 simp -dsimp only [Vm.G, zA, zB, zC, zD, zE, zF, q173.1]
 refine call_one (S := fetchSpec) rfl _ GaL.rfl ⟨V, f, 68, [id], by simp, rfl, hV, fun v hf => ?_, fun hf => ?_⟩
 · have hvl := hV.len _ _ hf
   have hf : f (dcK id) = some v := hf
   rw [hf] at hq1 hq2
   simp only [zLa] at hq1 hq2
   have ek : keyOf 68 [id] = dcK id := rfl
   simp -dsimp only [Vm.G, zA, zB, zC, zD, zE, zF, q173.1, ek]
   generalize dcK id = key at hk hq1 hq2
   refine call_one (S := docOfSpec) rfl _ GaL.rfl ⟨key, v, by omega, by omega, rfl, fun d hd => ?_, fun hd => ?_⟩
   · rw [hd] at hq1 hq2
     simp only [zLa] at hq1 hq2
     simp only [dcCells] at hq1 hq2 ⊢
     simp -dsimp only [Vm.G, zA, zB, zC, zD, zE, zF, q173.1]
     refine draw_cont [8] (.take 0 (.take 1 (.take 2 (.take 3 (.take 5 (.alt 4 (.take 6 (.take 7 (.take 8 (.take 9 (.alt 10 (.take 11 (.take 12 (.take 13 (.take 14 (.alt 15 (.take 16 (.take 17 (.alt 18 (.alt 19 (.done) .stop) .stop))) (.alt 18 (.alt 15 (.take 16 (.take 17 (.alt 19 (.done) .stop))) .stop) (.stop))))))) .stop))))) .stop)))))) (fun s h2 => h2 = h ∧ s 4 = .box [.v (.int .i64 d.id), .v (.int .i64 d.kind), .v (.int .i64 d.year), .v (.int .i64 d.frm), .v (.int .i64 d.lines)] ∧ s 5 = .v (.bool (headOk id d))) (by kernel_rfl) (by kernel_rfl) (by kernel_rfl) (by decide) ?_ ?_
     · clear hq1 hq2
       unfold headOk
       have h1 := zKa (d.id == id)
       rcases h1 with c1 | c1
       · have h2 := zKa (decide (d.lines ≥ 1))
         rcases h2 with c2 | c2
         · repeat' first
             | with_reducible exact True.intro
             | simp -dsimp only [Vm.G, zA, zB, zC, zD, zE, zF, q173.1, c1, c2, Bool.true_and]
             | refine tree_alt ?_ ?_
             | repeat' first | rfl | exact True.intro | refine And.intro ?_ ?_
         · repeat' first
             | with_reducible exact True.intro
             | simp -dsimp only [Vm.G, zA, zB, zC, zD, zE, zF, q173.1, c1, c2, Bool.true_and, Bool.false_and]
             | refine tree_alt ?_ ?_
             | repeat' first | rfl | exact True.intro | refine And.intro ?_ ?_
       · repeat' first
           | with_reducible exact True.intro
           | simp -dsimp only [Vm.G, zA, zB, zC, zD, zE, zF, q173.1, c1, Bool.false_and]
           | refine tree_alt ?_ ?_
           | repeat' first | rfl | exact True.intro | refine And.intro ?_ ?_
     · rintro s h2 ⟨rfl, e4, e5⟩
       have hd2 := zKa (headOk id d)
       rcases hd2 with c | c
       · rw [c] at e5
         simp -dsimp only [Vm.G, zA, zB, zC, zD, zE, zF, q173.1, e4, e5]
         exact hq1 d (if_pos c)
       · rw [c] at e5
         simp -dsimp only [Vm.G, zA, zB, zC, zD, zE, zF, q173.1, e4, e5]
         exact hq2 (if_neg (by rw [c]; decide)) d
   · rw [hd] at hq2
     have hq := hq2 rfl .zero
     simp only [dcCells, Dc.zero] at hq ⊢
     simp -dsimp only [Vm.G, zA, zB, zC, zD, zE, zF, q173.1]
     refine draw_cont [8] (.take 0 (.take 1 (.take 2 (.take 3 (.take 5 (.alt 4 (.take 6 (.take 7 (.take 8 (.take 9 (.alt 10 (.take 11 (.take 12 (.take 13 (.take 14 (.alt 15 (.take 16 (.take 17 (.alt 18 (.alt 19 (.done) .stop) .stop))) (.alt 18 (.alt 15 (.take 16 (.take 17 (.alt 19 (.done) .stop))) .stop) (.stop))))))) .stop))))) .stop)))))) (fun s h2 => h2 = h ∧ s 4 = .box [.v (.int .i64 0), .v (.int .i64 0), .v (.int .i64 0), .v (.int .i64 0), .v (.int .i64 0)] ∧ s 5 = .v (.bool false)) (by kernel_rfl) (by kernel_rfl) (by kernel_rfl) (by decide) ?_ ?_
     · clear hq1 hq2 hq
       repeat' first
         | with_reducible exact True.intro
         | simp -dsimp only [Vm.G, zA, zB, zC, zD, zE, zF, q173.1]
         | refine tree_alt ?_ ?_
         | repeat' first | rfl | exact True.intro | refine And.intro ?_ ?_
     · rintro s h2 ⟨rfl, e4, e5⟩
       simp -dsimp only [Vm.G, zA, zB, zC, zD, zE, zF, q173.1, e4, e5]
       exact hq
 · have hf : f (dcK id) = none := hf
   rw [hf] at hq2
   have hq := hq2 rfl .zero
   simp only [dcCells, Dc.zero] at hq
   simp -dsimp only [Vm.G, zA, zB, zC, zD, zE, zF, q173.1]
   exact hq
def dlineSpec : Vm.Spec := fun args h Q => ∃ (V : VId) (f : Fun) (id i : Int), args = [.agg [.ptr V.iv 0], .v (.int .i64 id), .v (.int .i64 i)] ∧ isView h V f ∧
 (∀ d, lineAt f id i = some d → Q (.tup [.agg (dlCells d), .v (.bool true)]) h) ∧ (lineAt f id i = none → Q (.tup [.agg (dlCells .zero), .v (.bool false)]) h)
theorem does_dline : Does Tryz.prog 174 dlineSpec := by
 refine dA (good_cons does_fetch (good_cons does_lineOf good_nil)) Tryz.func174 rfl (by decide +kernel) ?_
 rintro args h Q ⟨V, f, id, i, rfl, hV, hq1, hq2⟩
 refine ⟨by simp [Tryz.f174], ?_⟩
 have hk := dlK_length id i
 unfold lineAt at hq1 hq2
 simp only [dlCells, Dl.zero] at hq2
 simp -dsimp only [Vm.G, zA, zB, zC, zD, zE, zF, q174.1]
 refine bs_intro zr3 (by decide) (by decide) rfl rfl (by simp [solid, AV.cells]) ?_
 simp -dsimp only [Vm.G, zA, zB, zC, zD, zE, zF, q174.1]
 refine call_one (S := fetchSpec) rfl _ GaL.rfl ⟨V, f, 76, [id, i], by simp, rfl, hV, fun v hf => ?_, fun hf => ?_⟩
 · have hvl := hV.len _ _ hf
   have hf : f (dlK id i) = some v := hf
   rw [hf] at hq1 hq2
   simp only [zLa] at hq1 hq2
   have ek : keyOf 76 [id, i] = dlK id i := rfl
   simp -dsimp only [Vm.G, zA, zB, zC, zD, zE, zF, q174.1, ek]
   generalize dlK id i = key at hk hq1 hq2
   refine call_one (S := lineOfSpec) rfl _ GaL.rfl ⟨key, v, by omega, by omega, rfl, fun d hd => ?_, fun hd => ?_⟩
   · have hq := hq1 d hd
     simp only [dlCells] at hq ⊢
     simp -dsimp only [Vm.G, zA, zB, zC, zD, zE, zF, q174.1]
     exact hq
   · have hq := hq2 hd
     simp only [dlCells, Dl.zero]
     simp -dsimp only [Vm.G, zA, zB, zC, zD, zE, zF, q174.1]
     exact hq
 · have hf : f (dlK id i) = none := hf
   rw [hf] at hq2
   simp -dsimp only [Vm.G, zA, zB, zC, zD, zE, zF, q174.1]
   exact hq2 rfl
def linesAt (f : Fun) (id : Int) : Nat → Option (List Dl)
 | 0 => some []
 | n + 1 => (linesAt f id n).bind fun l => (lineAt f id n).map fun x => l ++ [x]
theorem linesAt_length {f : Fun} {id : Int} : ∀ {n : Nat} {l : List Dl}, linesAt f id n = some l → l.length = n
 | 0, l, h => by cases h; rfl
 | n + 1, l, h => by
   unfold linesAt at h
   cases h1 : linesAt f id n with
   | none => rw [h1] at h; cases h
   | some l1 =>
     rw [h1] at h
     cases h2 : lineAt f id n with
     | none => rw [zLa, h2] at h; cases h
     | some x =>
       rw [zLa, h2] at h
       cases h
       simp [linesAt_length h1]
theorem linesAt_none {f : Fun} {id : Int} : ∀ {n m : Nat}, n ≤ m → linesAt f id n = none → linesAt f id m = none
 | n, 0, hle, h => by
   obtain rfl : n = 0 := by omega
   exact h
 | n, m + 1, hle, h => by
   by_cases e : n = m + 1
   · subst e; exact h
   · have := linesAt_none (m := m) (by omega) h
     unfold linesAt
     rw [this]; rfl
def docAt (f : Fun) (id : Int) : Option (Dc × List Dl) := (docHead f id).bind fun d => (linesAt f id d.lines.toNat).map fun l => (d, l)
def docsGetSpec : Vm.Spec := fun args h Q => ∃ (V : VId) (f : Fun) (id : Int), args = [.ptr V.iv 0, .v (.int .i64 id)] ∧ isView h V f ∧
 (∀ d l, docAt f id = some (d, l) → l.length ≤ 6 → d.lines = l.length → Q (.otup 1 true 47 4 (l.map dlAv) [.agg (dcCells d), .any, .v (.bool true)]) h) ∧
 (docAt f id = none → Q (.tup [.agg (dcCells .zero), .v (.slice none 0 0), .v (.bool false)]) h)
theorem headOk_iff {id : Int} {d : Dc} : headOk id d = true ↔ d.id = id ∧ 1 ≤ d.lines ∧ d.lines ≤ 6 := by
 simp [headOk]
theorem docHead_ok {f : Fun} {id : Int} {d : Dc} (h : docHead f id = some d) : d.id = id ∧ 1 ≤ d.lines ∧ d.lines ≤ 6 := by
 unfold docHead at h
 cases h1 : f (dcK id) with
 | none => rw [h1] at h; cases h
 | some v =>
   rw [h1, zLa] at h
   cases h2 : docOf (dcK id) v with
   | none => rw [h2] at h; cases h
   | some d2 =>
     rw [h2, zLa] at h
     split at h
     · rename_i hc; cases h; exact headOk_iff.1 hc
     · cases h
theorem does_docsGet : Does Tryz.prog 123 docsGetSpec := by
 refine does_of_awpO 1 (good_cons does_doc (good_cons does_dline good_nil)) Tryz.func123 rfl (by decide +kernel) (by decide +kernel) ?_
 rintro args h Q ⟨V, f, id, rfl, hV, hq1, hq2⟩
 refine ⟨by simp [Tryz.f123], ?_⟩
 rw [awpFuncO_some (by rfl)]
 unfold docAt at hq1 hq2
 simp only [dcCells, Dc.zero] at hq2
 simp -dsimp only [Vm.G, zA, zB, zC, zD, zE, zF, q123.1]
 refine call_one (S := docSpec) rfl _ GaL.rfl ⟨V, f, id, rfl, hV, fun d hd => ?_, fun hd d => ?_⟩
 · rw [hd] at hq1 hq2
   simp only [zLa] at hq1 hq2
   obtain ⟨-, hd1, hd2⟩ := docHead_ok hd
   simp only [dcCells] at hq1 ⊢
   have hn : ∃ n : Nat, d.lines = n ∧ 1 ≤ n ∧ n ≤ 6 := ⟨d.lines.toNat, by omega, by omega, by omega⟩
   rcases hn with ⟨n, hn, hn1, hn6⟩
   have htn : d.lines.toNat = n := by omega
   rw [htn] at hq1 hq2
   have cz : cst (.agg #[.int .i64 0, .int .i64 0, .int .i64 0, .int .i64 0]) = dlAv .zero := by simp [cst, plain, dlAv, dlCells, Dl.zero]
   simp -dsimp only [Vm.G, zA, zB, zC, zD, zE, zF, q123.1, hn]
   refine make_intro ei43 z47 (.inr ⟨_, rfl, by simp [plain]⟩) (by omega) (Int.le_refl _) (by omega) (by omega) ?_
   rw [cz, zWa]
   simp -dsimp only [Vm.G, zA, zB, zC, zD, zE, zF, q123.1, List.length_replicate]
   refine awp_loop (fun m s h' => ∃ (i : Nat) (l : List Dl), i + m = n ∧ h' = h ∧ linesAt f id i = some l ∧ s = mk [(1, .v (.int .i64 id)), (7, .box [.ptr V.iv 0]), (8, .box [.v (.int .i64 d.id), .v (.int .i64 d.kind), .v (.int .i64 d.year), .v (.int .i64 d.frm), .v (.int .i64 d.lines)]), (10, .own true 47 4 ((l).map dlAv ++ List.replicate (n - (i)) (dlAv .zero))), (29, .v (.int .i64 (n : Nat))), (30, .v (.int .i64 (i : Nat))), (4, .box [.v (.int .i64 0), .v (.int .i64 0), .v (.int .i64 0), .v (.int .i64 0), .v (.int .i64 0)])])
     n _ (le_mk _ ?_) ⟨0, [], by omega, rfl, rfl, rfl⟩ ?_
   · simp only [Vm.D, zSb, zNb, Nat.sub_zero, hn]
     try simp -dsimp only [Vm.G, zA, zB, zC, zD, zE, zF, q123.1, zSb, zNb, Nat.sub_zero, hn]
     repeat' first | exact .refl _ | exact .nil _ _ _ (by decide) | refine ⟨?_, ?_⟩
   · rintro m s h' ⟨i, l, hi, rfl, hli, rfl⟩
     simp -dsimp only [Vm.G, zA, zB, zC, zD, zE, zF, q123.1]
     refine cond_intro (fun hcc => ?_) (fun hcc => ?_)
     · have hlt : i < n := by have := of_decide_eq_true hcc; omega
       have hw := hwN i (by omega)
       have hll := linesAt_length hli
       have hsuc : linesAt f id (i + 1) = (lineAt f id i).map fun x => l ++ [x] := by
         show (linesAt f id i).bind _ = _
         rw [hli]; rfl
       simp -dsimp only [Vm.G, zA, zB, zC, zD, zE, zF, q123.1]
       refine call_one (S := dlineSpec) rfl _ GaL.rfl ⟨V, f, id, (i : Nat), rfl, hV, fun x hx => ?_, fun hx => ?_⟩
       · rw [hx] at hsuc
         have hsuc : linesAt f id (i + 1) = some (l ++ [x]) := hsuc
         have hgi : (l.map dlAv ++ List.replicate (n - i) (dlAv .zero))[i]? = some (dlAv .zero) := by
           rw [zRa (by simp; omega), zIa, hll, Nat.sub_self, List.getElem?_replicate, if_pos (by omega)]
         have hre : (l.map dlAv ++ List.replicate (n - i) (dlAv .zero)).set i (dlAv x) = (l ++ [x]).map dlAv ++ List.replicate (n - (i + 1)) (dlAv .zero) := by
           rw [List.set_append_right _ _ (by simp; omega), zIa, hll, Nat.sub_self, show n - i = (n - (i + 1)) + 1 by omega, List.replicate_succ, List.set_cons_zero]
           simp
         simp only [dlCells]
         simp -dsimp only [Vm.G, zA, zB, zC, zD, zE, zF, q123.1]
         refine idxO_intro (by omega) (by simp; omega) ?_
         simp -dsimp only [Vm.G, zA, zB, zC, zD, zE, zF, q123.1, zWa]
         refine store_elt 47 _ (by simp -dsimp only [Vm.E, zA, zB, zC, zD, zE, zG, zH]) (y := dlAv .zero) hgi rfl rfl (by omega) rfl ?_
         simp only [dlAv, dlCells, AV.cells, putCells, reCell, List.take_zero, zNb, zJa, zMa, Nat.zero_add, Nat.reduceAdd, List.drop_succ_cons, List.drop_zero, zPb, List.drop_nil]
         simp only [dlAv, dlCells] at hre
         simp -dsimp only [Vm.G, zA, zB, zC, zD, zE, zF, q123.1, hre]
         refine kept_intro ⟨n - (i + 1), by omega, _, le_mk [(1, .v (.int .i64 id)), (7, .box [.ptr V.iv 0]), (8, .box [.v (.int .i64 d.id), .v (.int .i64 d.kind), .v (.int .i64 d.year), .v (.int .i64 d.frm), .v (.int .i64 d.lines)]), (10, .own true 47 4 ((l ++ [x]).map dlAv ++ List.replicate (n - (i + 1)) (dlAv .zero))), (29, .v (.int .i64 (n : Nat))), (30, .v (.int .i64 (i + 1 : Nat))), (4, .box [.v (.int .i64 0), .v (.int .i64 0), .v (.int .i64 0), .v (.int .i64 0), .v (.int .i64 0)])] ?_, i + 1, l ++ [x], by omega, rfl, hsuc, rfl⟩
         simp only [Vm.D, hw, dlAv, dlCells]
         try simp -dsimp only [Vm.G, zA, zB, zC, zD, zE, zF, q123.1, hw, dlAv, dlCells]
         repeat' first | exact .refl _ | exact .nil _ _ _ (by decide) | refine ⟨?_, ?_⟩
       · rw [hx] at hsuc
         rw [linesAt_none (m := n) (by omega) hsuc] at hq2
         simp only [dlCells]
         simp -dsimp only [Vm.G, zA, zB, zC, zD, zE, zF, q123.1]
         exact hq2 rfl
     · have hge : ¬ i < n := by have := of_decide_eq_false hcc; omega
       obtain rfl : i = n := by omega
       rw [hli] at hq1
       have hll := linesAt_length hli
       have hq := hq1 d l rfl (by omega) (by omega)
       clear hq1 hq2
       rw [Nat.sub_self, List.replicate_zero, zPb]
       simp -dsimp only [Vm.G, zA, zB, zC, zD, zE, zF, q123.1]
       exact hq
 · rw [hd] at hq2
   simp only [dcCells]
   simp -dsimp only [Vm.G, zA, zB, zC, zD, zE, zF, q123.1]
   exact hq2 rfl
def docsSet (f : Fun) (id i : Int) (x : Dl) : Fun × Int := match docAt f id with
 | some (_, l) => if 0 ≤ i ∧ i < l.length then (upd f (dlK id i) (some (dlV x)), 0) else (f, 7)
 | none => (f, 7)
def docsSetSpec : Vm.Spec := fun args h Q => ∃ (V : VId) (f : Fun) (id i : Int) (x : Dl), I64 id ∧ I64 i ∧ x.ok ∧ args = [.ptr V.iv 0, .v (.int .i64 id), .v (.int .i64 i), dlAv x] ∧ isView h V f ∧
 ∀ h', isView h' V (docsSet f id i x).1 → Same h h' [V.ic] → Q (.v (.int .i64 (docsSet f id i x).2)) h'
theorem does_docsSet : Does Tryz.prog 176 docsSetSpec := by
 refine dA (good_cons does_docsGet (good_cons does_recDl (good_cons does_dset good_nil))) Tryz.func176 rfl (by decide +kernel) ?_
 rintro args h Q ⟨V, f, id, i, x, hid, hii, hx, rfl, hV, hq⟩
 refine ⟨by simp [Tryz.f176], ?_⟩
 unfold docsSet at hq
 simp only [dlAv, dlCells]
 simp -dsimp only [Vm.G, zA, zB, zC, zD, zE, zF, q176.1]
 refine call_one (S := docsGetSpec) rfl _ GaL.rfl ⟨V, f, id, rfl, hV, fun d l hd hl6 hdl => ?_, fun hd => ?_⟩
 · rw [hd] at hq
   simp only [dcCells] at hq ⊢
   simp -dsimp only [Vm.G, zA, zB, zC, zD, zE, zF, q176.1]
   have hd1 := zKa (decide (i < 0))
   rcases hd1 with c1 | c1
   · have d1 := of_decide_eq_true c1
     rw [if_neg (by omega)] at hq
     simp -dsimp only [Vm.G, zA, zB, zC, zD, zE, zF, q176.1, c1]
     exact hq h hV (.refl _ _)
   · have d1 := of_decide_eq_false c1
     have hd2 := zKa (decide (i ≥ (l.length : Int)))
     rcases hd2 with c2 | c2
     · have d2 := of_decide_eq_true c2
       rw [if_neg (by omega)] at hq
       simp -dsimp only [Vm.G, zA, zB, zC, zD, zE, zF, q176.1, c1, c2, zIa]
       exact hq h hV (.refl _ _)
     · have d2 := of_decide_eq_false c2
       rw [if_pos (by omega)] at hq
       simp -dsimp only [Vm.G, zA, zB, zC, zD, zE, zF, q176.1, c1, c2, zIa]
       refine call_one (S := rdlSpec) rfl _ GaL.rfl ⟨id, i, x, hid, hii, hx, rfl, ?_⟩
       simp -dsimp only [Vm.G, zA, zB, zC, zD, zE, zF, q176.1]
       refine call_one (S := dsetSpec) rfl _ GaL.rfl ⟨V, f, dlK id i, dlV x, rfl, right_dl id i x, hV, fun h2 g1 g2 => ?_⟩
       simp -dsimp only [Vm.G, zA, zB, zC, zD, zE, zF, q176.1]
       exact hq h2 g1 g2
 · rw [hd] at hq
   simp only [dcCells, Dc.zero] at hq ⊢
   simp -dsimp only [Vm.G, zA, zB, zC, zD, zE, zF, q176.1]
   exact hq h hV (.refl _ _)
def openD (x : Dl) : Int := w64 (x.orig - w64 (x.liq + x.can))
def openDSpec : Vm.Spec := fun args h Q => ∃ x : Dl, args = [dlAv x] ∧ Q (.v (.int .i64 (openD x))) h
theorem does_docsOpen : Does Tryz.prog 175 openDSpec := by
 refine dA good_nil Tryz.func175 rfl (by decide +kernel) ?_
 rintro args h Q ⟨x, rfl, hq⟩
 refine ⟨by simp [Tryz.f175], ?_⟩
 simp only [dlAv, dlCells]
 simp -dsimp only [Vm.G, zA, zB, zC, zD, zE, zF, q175.1]
 exact hq
theorem does_rDl : Does Tryz.prog 97 rdlSpec := by
 refine dA (good_cons does_rPair good_nil) Tryz.func97 rfl (by decide +kernel) ?_
 rintro args h Q ⟨id, i, x, hid, hi, ⟨o1, o2, o3, o4⟩, rfl, hq⟩
 refine ⟨by simp [Tryz.f97], ?_⟩
 simp only [dlAv, dlCells]
 simp -dsimp only [Vm.G, zA, zB, zC, zD, zE, zF, q97.1]
 refine bs_intro zr3 (by decide) (by decide) rfl rfl (by simp [solid, AV.cells]) ?_
 simp -dsimp only [Vm.G, zA, zB, zC, zD, zE, zF, q97.1]
 refine bs_intro zr3 (by decide) (by decide) rfl rfl (by simp [solid, AV.cells]) ?_
 simp -dsimp only [Vm.G, zA, zB, zC, zD, zE, zF, q97.1]
 refine call_one (S := rPairSpec) rfl _ GaL.rfl ⟨76, [id, i], [x.node, x.orig, x.liq, x.can], by simp, by simp, ?_, rfl, ?_⟩
 · intro m hm
   simp only [zXa, zUa, or_false] at hm
   rcases hm with rfl | rfl | rfl | rfl <;> assumption
 · simp -dsimp only [Vm.G, zA, zB, zC, zD, zE, zF, q97.1]
   exact hq
theorem does_rDc : Does Tryz.prog 98 rdcSpec := by
 refine dA (good_cons does_rPair good_nil) Tryz.func98 rfl (by decide +kernel) ?_
 rintro args h Q ⟨d, ⟨o1, o2, o3, o4, o5⟩, rfl, hq⟩
 refine ⟨by simp [Tryz.f98], ?_⟩
 simp only [dcCells]
 simp -dsimp only [Vm.G, zA, zB, zC, zD, zE, zF, q98.1]
 refine bs_intro zr3 (by decide) (by decide) rfl rfl (by simp [solid, AV.cells]) ?_
 simp -dsimp only [Vm.G, zA, zB, zC, zD, zE, zF, q98.1]
 refine bs_intro zr3 (by decide) (by decide) rfl rfl (by simp [solid, AV.cells]) ?_
 simp -dsimp only [Vm.G, zA, zB, zC, zD, zE, zF, q98.1]
 refine call_one (S := rPairSpec) rfl _ GaL.rfl ⟨68, [d.id], [d.kind, d.year, d.frm, d.lines], by simp, by simp, ?_, rfl, ?_⟩
 · intro m hm
   simp only [zXa, zUa, or_false] at hm
   rcases hm with rfl | rfl | rfl | rfl <;> assumption
 · simp -dsimp only [Vm.G, zA, zB, zC, zD, zE, zF, q98.1]
   exact hq
def rDocOfSpec : Vm.Spec := fun args h Q => ∃ key val : List UInt8, key.length ≤ 1073741824 ∧ val.length ≤ 1073741824 ∧ args = [.agg [.sl 1 (key.map encB), .sl 1 (val.map encB)]] ∧
 (∀ d, docOf key val = some d → Q (.tup [.agg (dcCells d), .v (.bool true)]) h) ∧ (docOf key val = none → Q (.tup [.agg (dcCells .zero), .v (.bool false)]) h)
theorem does_rDocOf : Does Tryz.prog 146 rDocOfSpec := by
 refine dA (good_cons does_rBoth good_nil) Tryz.func146 rfl (by decide +kernel) ?_
 rintro args h Q ⟨key, val, hk, hv, rfl, hq1, hq2⟩
 refine ⟨by simp [Tryz.f146], ?_⟩
 unfold docOf at hq1 hq2
 rw [both_nums] at hq1 hq2
 simp only [dcCells, Dc.zero] at hq2
 simp -dsimp only [Vm.G, zA, zB, zC, zD, zE, zF, q146.1]
 refine call_one (S := rBothSpec) rfl _ GaL.rfl ⟨68, 1, 4, key, val, by omega, by omega, hk, hv, rfl, fun p hp => ?_, fun hp a b => ?_⟩
 · have hlen := both_length hp
   obtain ⟨kl, vl⟩ := p
   obtain ⟨hl1, hl2⟩ := hlen
   match kl, hl1 with
   | [k0], _ =>
   match vl, hl2 with
   | [b0, b1, b2, b3], _ =>
   rw [hp] at hq1
   have hq1' := hq1 _ rfl
   clear hq1 hq2 hp
   simp -dsimp only [Vm.G, zA, zB, zC, zD, zE, zF, q146.1]
   refine draw_cont [] (.take 0 (.take 1 (.take 2 (.take 3 (.take 4 (.take 5 (.take 6 (.take 7 (.take 8 (.take 9 (.take 10 (.take 11 (.take 12 (.take 13 (.take 14 (.alt 15 (.alt 16 (.alt 17 (.done) .stop) .stop) .stop)))))))))))))))) (fun s h2 => h2 = h ∧ s 2 = .box (dcCells ⟨k0, b0, b1, b2, b3⟩) ∧ s 3 = .v (.bool true)) (by kernel_rfl) (by kernel_rfl) (by kernel_rfl) (by decide) ?_ ?_
   · simp -dsimp only [Vm.G, zA, zB, zC, zD, zE, zF, q146.1, idx_lit, idxE_some, Int.reduceToNat, Int.reduceLE, decide_true, eq_self, encI]
     repeat' first | rfl | exact True.intro | refine And.intro ?_ ?_
   · rintro s h2 ⟨rfl, e2, e3⟩
     simp only [dcCells] at e2
     simp -dsimp only [Vm.G, zA, zB, zC, zD, zE, zF, q146.1, e2, e3]
     exact hq1'
 · rw [hp] at hq2
   simp -dsimp only [Vm.G, zA, zB, zC, zD, zE, zF, q146.1]
   exact hq2 rfl
def rLineOfSpec : Vm.Spec := fun args h Q => ∃ key val : List UInt8, key.length ≤ 1073741824 ∧ val.length ≤ 1073741824 ∧ args = [.agg [.sl 1 (key.map encB), .sl 1 (val.map encB)]] ∧
 (∀ d, lineOf key val = some d → Q (.tup [.agg (dlCells d), .v (.bool true)]) h) ∧ (lineOf key val = none → Q (.tup [.agg (dlCells .zero), .v (.bool false)]) h)
theorem does_rLineOf : Does Tryz.prog 202 rLineOfSpec := by
 refine dA (good_cons does_rBoth good_nil) Tryz.func202 rfl (by decide +kernel) ?_
 rintro args h Q ⟨key, val, hk, hv, rfl, hq1, hq2⟩
 refine ⟨by simp [Tryz.f202], ?_⟩
 unfold lineOf at hq1 hq2
 rw [both_nums] at hq1 hq2
 simp only [dlCells, Dl.zero] at hq2
 simp -dsimp only [Vm.G, zA, zB, zC, zD, zE, zF, q202.1]
 refine call_one (S := rBothSpec) rfl _ GaL.rfl ⟨76, 2, 4, key, val, by omega, by omega, hk, hv, rfl, fun p hp => ?_, fun hp a b => ?_⟩
 · have hlen := both_length hp
   obtain ⟨kl, vl⟩ := p
   obtain ⟨hl1, hl2⟩ := hlen
   match kl, hl1 with
   | [k0, k1], _ =>
   match vl, hl2 with
   | [b0, b1, b2, b3], _ =>
   rw [hp] at hq1
   have hq1' := hq1 _ rfl
   clear hq1 hq2 hp
   simp -dsimp only [Vm.G, zA, zB, zC, zD, zE, zF, q202.1]
   refine draw_cont [] (.take 0 (.take 1 (.take 2 (.take 3 (.take 4 (.take 5 (.take 6 (.take 7 (.take 8 (.take 9 (.take 10 (.take 11 (.alt 12 (.alt 13 (.alt 14 (.done) .stop) .stop) .stop))))))))))))) (fun s h2 => h2 = h ∧ s 2 = .box (dlCells ⟨b0, b1, b2, b3⟩) ∧ s 3 = .v (.bool true)) (by kernel_rfl) (by kernel_rfl) (by kernel_rfl) (by decide) ?_ ?_
   · simp -dsimp only [Vm.G, zA, zB, zC, zD, zE, zF, q202.1, idx_lit, idxE_some, Int.reduceToNat, Int.reduceLE, decide_true, eq_self, encI]
     repeat' first | rfl | exact True.intro | refine And.intro ?_ ?_
   · rintro s h2 ⟨rfl, e2, e3⟩
     simp only [dlCells] at e2
     simp -dsimp only [Vm.G, zA, zB, zC, zD, zE, zF, q202.1, e2, e3]
     exact hq1'
 · rw [hp] at hq2
   simp -dsimp only [Vm.G, zA, zB, zC, zD, zE, zF, q202.1]
   exact hq2 rfl
theorem lineOf_nil (key : List UInt8) : lineOf key [] = none := by
 unfold lineOf numsPair
 cases splitOf key with
 | none => rfl
 | some p => simp
theorem docOf_nil (key : List UInt8) : docOf key [] = none := by
 unfold docOf numsPair
 cases splitOf key with
 | none => rfl
 | some p => simp
def rlineSpec : Vm.Spec := fun args h Q => ∃ (R : RId) (f : Fun) (id i : Int), args = [.ptr R.iv 0, .v (.int .i64 id), .v (.int .i64 i)] ∧ isRef h R f ∧ f.n ≤ 536870912 ∧
 (∀ d, lineAt f id i = some d → Q (.tup [.agg (dlCells d), .v (.bool true)]) h) ∧ (lineAt f id i = none → Q (.tup [.agg (dlCells .zero), .v (.bool false)]) h)
theorem does_rline : Does Tryz.prog 147 rlineSpec := by
 refine dA (good_cons does_rKey (good_cons does_rGet (good_cons does_rLineOf good_nil))) Tryz.func147 rfl (by decide +kernel) ?_
 rintro args h Q ⟨R, f, id, i, rfl, hR, hfn, hq1, hq2⟩
 refine ⟨by simp [Tryz.f147], ?_⟩
 have hk := dlK_length id i
 unfold lineAt at hq1 hq2
 simp only [dlCells, Dl.zero] at hq2
 simp -dsimp only [Vm.G, zA, zB, zC, zD, zE, zF, q147.1]
 refine bs_intro zr3 (by decide) (by decide) rfl rfl (by simp [solid, AV.cells]) ?_
 simp -dsimp only [Vm.G, zA, zB, zC, zD, zE, zF, q147.1]
 refine call_one (S := keySpec) rfl _ GaL.rfl ⟨76, [id, i], by simp, rfl, ?_⟩
 have ek : keyOf 76 [id, i] = dlK id i := rfl
 simp -dsimp only [Vm.G, zA, zB, zC, zD, zE, zF, q147.1, ek]
 generalize dlK id i = key at hk hq1 hq2 ⊢
 refine call_one (S := rGetSpec) rfl _ GaL.rfl ⟨R, f, key, rfl, hR, hfn, fun v hf => ?_, fun hf => ?_⟩
 · have hvl := (hR.len hf).2
   rw [hf] at hq1 hq2
   simp only [zLa] at hq1 hq2
   simp -dsimp only [Vm.G, zA, zB, zC, zD, zE, zF, q147.1]
   refine call_one (S := rLineOfSpec) rfl _ GaL.rfl ⟨key, v, by omega, by omega, rfl, fun d hd => ?_, fun hd => ?_⟩
   · have hq := hq1 d hd
     simp only [dlCells] at hq ⊢
     simp -dsimp only [Vm.G, zA, zB, zC, zD, zE, zF, q147.1]
     exact hq
   · have hq := hq2 hd
     simp only [dlCells, Dl.zero]
     simp -dsimp only [Vm.G, zA, zB, zC, zD, zE, zF, q147.1]
     exact hq
 · rw [hf] at hq2
   simp -dsimp only [Vm.G, zA, zB, zC, zD, zE, zF, q147.1]
   refine call_one (S := rLineOfSpec) rfl _ GaL.rfl ⟨key, [], by omega, by simp, rfl, fun d hd => ?_, fun hd => ?_⟩
   · rw [lineOf_nil] at hd; cases hd
   · simp only [dlCells, Dl.zero]
     simp -dsimp only [Vm.G, zA, zB, zC, zD, zE, zF, q147.1]
     exact hq2 rfl
def rDocsGetSpec : Vm.Spec := fun args h Q => ∃ (R : RId) (f : Fun) (id : Int), args = [.ptr R.iv 0, .v (.int .i64 id)] ∧ isRef h R f ∧ f.n ≤ 536870912 ∧
 (∀ d l, docAt f id = some (d, l) → l.length ≤ 6 → d.lines = l.length → Q (.otup 1 true 47 4 (l.map dlAv) [.agg (dcCells d), .any, .v (.bool true)]) h) ∧
 (docAt f id = none → Q (.tup [.agg (dcCells .zero), .v (.slice none 0 0), .v (.bool false)]) h)
theorem does_rDocsGet : Does Tryz.prog 91 rDocsGetSpec := by
 refine does_of_awpO 1 (good_cons does_rKey (good_cons does_rGet (good_cons does_rDocOf (good_cons does_rline good_nil)))) Tryz.func91 rfl (by decide +kernel) (by decide +kernel) ?_
 rintro args h Q ⟨R, f, id, rfl, hR, hfn, hq1, hq2⟩
 refine ⟨by simp [Tryz.f91], ?_⟩
 rw [awpFuncO_some (by rfl)]
 have hk := dcK_length id
 unfold docAt docHead at hq1 hq2
 simp only [dcCells, Dc.zero] at hq2
 simp -dsimp only [Vm.G, zA, zB, zC, zD, zE, zF, q91.1]
 refine bs_intro zr3 (by decide) (by decide) rfl rfl (by simp [solid, AV.cells]) ?_
 simp -dsimp only [Vm.G, zA, zB, zC, zD, zE, zF, q91.1]
 refine call_one (S := keySpec) rfl _ GaL.rfl ⟨68, [id], by simp, rfl, ?_⟩
 have ek : keyOf 68 [id] = dcK id := rfl
 simp -dsimp only [Vm.G, zA, zB, zC, zD, zE, zF, q91.1, ek]
 generalize dcK id = key at hk hq1 hq2 ⊢
 refine call_one (S := rGetSpec) rfl _ GaL.rfl ⟨R, f, key, rfl, hR, hfn, fun v hf => ?_, fun hf => ?_⟩
 · have hvl := (hR.len hf).2
   rw [hf] at hq1 hq2
   simp only [zLa] at hq1 hq2
   simp -dsimp only [Vm.G, zA, zB, zC, zD, zE, zF, q91.1]
   refine call_one (S := rDocOfSpec) rfl _ GaL.rfl ⟨key, v, by omega, by omega, rfl, fun d hd => ?_, fun hd => ?_⟩
   · rw [hd] at hq1 hq2
     simp only [zLa] at hq1 hq2
     simp only [dcCells] at hq1 ⊢
     have hh := zKa (headOk id d)
     rcases hh with c | c
     · rw [if_pos c] at hq1 hq2
       simp only [zLa] at hq1 hq2
       have hk3 := headOk_iff.1 c
       rcases hk3 with ⟨hid, hd1, hd2⟩
       have hn : ∃ n : Nat, d.lines = n ∧ 1 ≤ n ∧ n ≤ 6 := ⟨d.lines.toNat, by omega, by omega, by omega⟩
       rcases hn with ⟨n, hn, hn1, hn6⟩
       have htn : d.lines.toNat = n := by omega
       rw [htn] at hq1 hq2
       have c1 : (d.id != id) = false := by simp [hid]
       have c2 : decide (d.lines < 1) = false := decide_eq_false (by omega)
       have c3 : decide (d.lines > 6) = false := decide_eq_false (by omega)
       simp -dsimp only [Vm.G, zA, zB, zC, zD, zE, zF, q91.1, c1, c2, c3]
       refine awp_loop (fun m s h' => ∃ (i : Nat) (l : List Dl), i + m = n ∧ h' = h ∧ linesAt f id i = some l ∧ s = mk [(0, .ptr R.iv 0), (1, .v (.int .i64 id)), (4, .box [.v (.int .i64 0), .v (.int .i64 0), .v (.int .i64 0), .v (.int .i64 0), .v (.int .i64 0)]), (10, .box [.v (.int .i64 d.id), .v (.int .i64 d.kind), .v (.int .i64 d.year), .v (.int .i64 d.frm), .v (.int .i64 d.lines)]), (12, .own true 47 4 ((l).map dlAv)), (13, .v (.int .i64 (i : Nat)))])
         n _ (le_mk _ ?_) ⟨0, [], by omega, rfl, rfl, rfl⟩ ?_
       · simp only [Vm.D]
         try simp -dsimp only [Vm.G, zA, zB, zC, zD, zE, zF, q91.1]
         repeat' first | exact .refl _ | exact .nil _ _ _ (by decide) | refine ⟨?_, ?_⟩
       · rintro m s h' ⟨i, l, hi, rfl, hli, rfl⟩
         simp -dsimp only [Vm.G, zA, zB, zC, zD, zE, zF, q91.1]
         refine cond_intro (fun hcc => ?_) (fun hcc => ?_)
         · have hlt : i < n := by have := of_decide_eq_true hcc; omega
           have hw := hwN i (by omega)
           have hll := linesAt_length hli
           have hsuc : linesAt f id (i + 1) = (lineAt f id i).map fun x => l ++ [x] := by
             show (linesAt f id i).bind _ = _
             rw [hli]; rfl
           simp -dsimp only [Vm.G, zA, zB, zC, zD, zE, zF, q91.1]
           refine call_one (S := rlineSpec) rfl _ GaL.rfl ⟨R, f, id, (i : Nat), rfl, hR, hfn, fun x hx => ?_, fun hx => ?_⟩
           · rw [hx] at hsuc
             have hsuc : linesAt f id (i + 1) = some (l ++ [x]) := hsuc
             simp only [dlCells]
             simp -dsimp only [Vm.G, zA, zB, zC, zD, zE, zF, q91.1]
             refine bs_intro zr47 (by decide) (by decide) rfl rfl (by simp [solid, AV.cells]) ?_
             simp -dsimp only [Vm.G, zA, zB, zC, zD, zE, zF, q91.1]
             refine app_sl Tryz.underlying43 (by simp [AV.cells]) (by simp only [zIa, zJa, zMa]; omega) ?_
             simp -dsimp only [Vm.G, zA, zB, zC, zD, zE, zF, q91.1]
             refine kept_intro ⟨n - (i + 1), by omega, _, le_mk [(0, .ptr R.iv 0), (1, .v (.int .i64 id)), (4, .box [.v (.int .i64 0), .v (.int .i64 0), .v (.int .i64 0), .v (.int .i64 0), .v (.int .i64 0)]), (10, .box [.v (.int .i64 d.id), .v (.int .i64 d.kind), .v (.int .i64 d.year), .v (.int .i64 d.frm), .v (.int .i64 d.lines)]), (12, .own true 47 4 ((l ++ [x]).map dlAv)), (13, .v (.int .i64 (i + 1 : Nat)))] ?_, i + 1, l ++ [x], by omega, rfl, hsuc, rfl⟩
             simp only [Vm.D, hw, dlAv, dlCells, zRb, List.map_cons, zSb]
             try simp -dsimp only [Vm.G, zA, zB, zC, zD, zE, zF, q91.1, hw, dlAv, dlCells, zRb, List.map_cons, zSb]
             repeat' first | exact .refl _ | exact .nil _ _ _ (by decide) | refine ⟨?_, ?_⟩
           · rw [hx] at hsuc
             rw [linesAt_none (m := n) (by omega) hsuc] at hq2
             simp only [dlCells]
             simp -dsimp only [Vm.G, zA, zB, zC, zD, zE, zF, q91.1]
             exact hq2 rfl
         · have hge : ¬ i < n := by have := of_decide_eq_false hcc; omega
           obtain rfl : i = n := by omega
           rw [hli] at hq1
           have hll := linesAt_length hli
           have hq := hq1 d l rfl (by omega) (by omega)
           clear hq1 hq2
           simp -dsimp only [Vm.G, zA, zB, zC, zD, zE, zF, q91.1]
           exact hq
     · rw [if_neg (by rw [c]; decide)] at hq2
       have hq2 := hq2 rfl
       have h1 := zKa (d.id != id)
       rcases h1 with c1 | c1
       · simp -dsimp only [Vm.G, zA, zB, zC, zD, zE, zF, q91.1, c1]
         exact hq2
       · have h2 := zKa (decide (d.lines < 1))
         rcases h2 with c2 | c2
         · simp -dsimp only [Vm.G, zA, zB, zC, zD, zE, zF, q91.1, c1, c2]
           exact hq2
         · have h3 := zKa (decide (d.lines > 6))
           rcases h3 with c3 | c3
           · simp -dsimp only [Vm.G, zA, zB, zC, zD, zE, zF, q91.1, c1, c2, c3]
             exact hq2
           · exfalso
             have d1 : d.id = id := by simpa using c1
             have d2 := of_decide_eq_false c2
             have d3 := of_decide_eq_false c3
             rw [headOk_iff.2 ⟨d1, by omega, by omega⟩] at c
             cases c
   · rw [hd] at hq2
     simp only [dcCells, Dc.zero]
     simp -dsimp only [Vm.G, zA, zB, zC, zD, zE, zF, q91.1]
     exact hq2 rfl
 · rw [hf] at hq2
   simp -dsimp only [Vm.G, zA, zB, zC, zD, zE, zF, q91.1]
   refine call_one (S := rDocOfSpec) rfl _ GaL.rfl ⟨key, [], by omega, by simp, rfl, fun d hd => ?_, fun hd => ?_⟩
   · rw [docOf_nil] at hd; cases hd
   · simp only [dcCells, Dc.zero]
     simp -dsimp only [Vm.G, zA, zB, zC, zD, zE, zF, q91.1]
     exact hq2 rfl
def rDocsSetSpec : Vm.Spec := fun args h Q => ∃ (R : RId) (f : Fun) (id i : Int) (x : Dl), I64 id ∧ I64 i ∧ x.ok ∧ args = [.ptr R.iv 0, .v (.int .i64 id), .v (.int .i64 i), dlAv x] ∧ isRef h R f ∧ f.n ≤ 536870912 ∧
 ∀ h', isRef h' R (docsSet f id i x).1 → Same h h' (rFoot R) → Q (.v (.int .i64 (docsSet f id i x).2)) h'
theorem does_rDocsSet : Does Tryz.prog 93 rDocsSetSpec := by
 refine dA (good_cons does_rDocsGet (good_cons does_rDl (good_cons does_rSet good_nil))) Tryz.func93 rfl (by decide +kernel) ?_
 rintro args h Q ⟨R, f, id, i, x, hid, hii, hx, rfl, hR, hfn, hq⟩
 refine ⟨by simp [Tryz.f93], ?_⟩
 unfold docsSet at hq
 simp only [dlAv, dlCells]
 simp -dsimp only [Vm.G, zA, zB, zC, zD, zE, zF, q93.1]
 refine call_one (S := rDocsGetSpec) rfl _ GaL.rfl ⟨R, f, id, rfl, hR, hfn, fun d l hd hl6 hdl => ?_, fun hd => ?_⟩
 · rw [hd] at hq
   simp only [dcCells] at hq ⊢
   simp -dsimp only [Vm.G, zA, zB, zC, zD, zE, zF, q93.1]
   have hd1 := zKa (decide (i < 0))
   rcases hd1 with c1 | c1
   · have d1 := of_decide_eq_true c1
     rw [if_neg (by omega)] at hq
     simp -dsimp only [Vm.G, zA, zB, zC, zD, zE, zF, q93.1, c1]
     exact hq h hR (.refl _ _)
   · have d1 := of_decide_eq_false c1
     have hd2 := zKa (decide (i ≥ (l.length : Int)))
     rcases hd2 with c2 | c2
     · have d2 := of_decide_eq_true c2
       rw [if_neg (by omega)] at hq
       simp -dsimp only [Vm.G, zA, zB, zC, zD, zE, zF, q93.1, c1, c2, zIa]
       exact hq h hR (.refl _ _)
     · have d2 := of_decide_eq_false c2
       rw [if_pos (by omega)] at hq
       simp -dsimp only [Vm.G, zA, zB, zC, zD, zE, zF, q93.1, c1, c2, zIa]
       refine call_one (S := rdlSpec) rfl _ GaL.rfl ⟨id, i, x, hid, hii, hx, rfl, ?_⟩
       simp -dsimp only [Vm.G, zA, zB, zC, zD, zE, zF, q93.1]
       refine call_one (S := rSetSpec) rfl _ GaL.rfl ⟨R, f, (dlK id i, dlV x), rfl, hR, hfn, fun h2 g1 g2 => ?_⟩
       rw [if_pos (right_dl id i x)] at g1
       simp -dsimp only [Vm.G, zA, zB, zC, zD, zE, zF, q93.1]
       exact hq h2 g1 g2
 · rw [hd] at hq
   simp only [dcCells, Dc.zero] at hq ⊢
   simp -dsimp only [Vm.G, zA, zB, zC, zD, zE, zF, q93.1]
   exact hq h hR (.refl _ _)
theorem openD_ref (x : Dl) : w64 (w64 (x.orig - x.liq) - x.can) = openD x := by
 unfold openD
 have h1 : w64 (w64 (x.orig - x.liq) - x.can) = w64 (w64 (x.orig - x.liq) + -x.can) := rfl
 have h2 : ∀ a b : Int, w64 (w64 a + b) = w64 (a + b) := fun a b => by
   show IntKind.i64.wrap _ = IntKind.i64.wrap _
   rw [wrap_i64_toInt, wrap_i64_toInt]
   congr 1
   show BitVec.ofInt 64 (IntKind.i64.wrap a + b) = _
   rw [wrap_i64_toInt, BitVec.ofInt_add, BitVec.ofInt_toInt, ← BitVec.ofInt_add]
 have h3 : w64 (x.orig - w64 (x.liq + x.can)) = w64 (x.orig - (x.liq + x.can)) := by
   show IntKind.i64.wrap _ = IntKind.i64.wrap _
   rw [wrap_i64_toInt, wrap_i64_toInt]
   congr 1
   show BitVec.ofInt 64 (x.orig - IntKind.i64.wrap (x.liq + x.can)) = _
   rw [wrap_i64_toInt, Int.sub_eq_add_neg, Int.sub_eq_add_neg, BitVec.ofInt_add (x := x.orig), BitVec.ofInt_add (x := x.orig), BitVec.ofInt_neg, BitVec.ofInt_neg, BitVec.ofInt_toInt]
 rw [h1, h2, h3]
 congr 1; omega
theorem does_rDocsOpen : Does Tryz.prog 92 openDSpec := by
 refine dA good_nil Tryz.func92 rfl (by decide +kernel) ?_
 rintro args h Q ⟨x, rfl, hq⟩
 refine ⟨by simp [Tryz.f92], ?_⟩
 rw [← openD_ref] at hq
 simp only [dlAv, dlCells]
 simp -dsimp only [Vm.G, zA, zB, zC, zD, zE, zF, q92.1]
 exact hq
def rDocsPutSpec : Vm.Spec := fun args h Q => ∃ (R : RId) (f : Fun) (d : Dc) (l : List Dl), d.ok ∧ (∀ x ∈ l, x.ok) ∧ args = [.ptr R.iv 0, .agg (dcCells d), .sl 4 (l.map dlAv)] ∧ isRef h R f ∧ f.n ≤ 536870900 ∧
 ∀ h', isRef h' R (docsPut f d l).1 → Same h h' (rFoot R) → Q (.tup [.v (.int .i64 (docsPut f d l).2.1), .v (.int .i64 (docsPut f d l).2.2)]) h'
theorem does_rDocsPut : Does Tryz.prog 47 rDocsPutSpec := by
 refine dA (good_cons does_rNext (good_cons does_rDl (good_cons does_rSet (good_cons does_rDc good_nil)))) Tryz.func47 rfl (by decide +kernel) ?_
 rintro args h Q ⟨R, f, d, l, hd, hx, rfl, hR, hfn, hq⟩
 refine ⟨by simp [Tryz.f47], ?_⟩
 unfold docsPut at hq
 simp only [dcCells]
 simp -dsimp only [Vm.G, zA, zB, zC, zD, zE, zF, q47.1]
 have hd0 := zKa (decide ((l.length : Int) < 1))
 rcases hd0 with c0 | c0
 · have d0 := of_decide_eq_true c0
   simp only [if_pos (show l.length = 0 ∨ 6 < l.length from .inl (by omega))] at hq
   simp -dsimp only [Vm.G, zA, zB, zC, zD, zE, zF, q47.1, c0]
   exact hq h hR (.refl _ _)
 · have d0 := of_decide_eq_false c0
   have hd6 := zKa (decide ((l.length : Int) > 6))
   rcases hd6 with c6 | c6
   · have d6 := of_decide_eq_true c6
     simp only [if_pos (show l.length = 0 ∨ 6 < l.length from .inr (by omega))] at hq
     simp -dsimp only [Vm.G, zA, zB, zC, zD, zE, zF, q47.1, c0, c6]
     exact hq h hR (.refl _ _)
   · have d6 := of_decide_eq_false c6
     have hr := readOf_range f (seqKey 2)
     simp only [if_neg (show ¬ (l.length = 0 ∨ 6 < l.length) by omega)] at hq
     simp -dsimp only [Vm.G, zA, zB, zC, zD, zE, zF, q47.1, c0, c6]
     refine call_one (S := rNextSpec) rfl _ GaL.rfl ⟨R, f, 2, rfl, hR, by omega, fun hr => ?_, fun hn h1 g1 g2 => ?_⟩
     · simp only [if_pos hr] at hq
       simp -dsimp only [Vm.G, zA, zB, zC, zD, zE, zF, q47.1]
       exact hq h hR (.refl _ _)
     · simp only [if_neg hn] at hq
       unfold docsF at hq
       have hidr : I64 (readOf f (seqKey 2) + 1) := by unfold I64 at hr ⊢; omega
       have hf1 : (upd f (seqKey 2) (some (be 8 (readOf f (seqKey 2) + 1)))).n = f.n + 1 := rfl
       generalize readOf f (seqKey 2) + 1 = id at hq g1 hidr hf1 ⊢
       generalize upd f (seqKey 2) (some (be 8 id)) = f1 at hq g1 hf1
       simp -dsimp only [Vm.G, zA, zB, zC, zD, zE, zF, q47.1]
       refine awp_loop (fun m s h' => ∃ (i : Nat) (g : Fun), i + m = l.length ∧ isRef h' R g ∧ g.n ≤ f.n + 1 + i ∧ Same h h' (rFoot R) ∧ putLines id i (l.drop i) g = putLines id 0 l f1 ∧ s = mk [(0, .ptr R.iv 0), (2, .sl 4 (l.map dlAv)), (4, .box [.v (.int .i64 d.id), .v (.int .i64 d.kind), .v (.int .i64 d.year), .v (.int .i64 d.frm), .v (.int .i64 d.lines)]), (8, .v (.int .i64 id)), (10, .v (.int .i64 (i : Nat)))])
         l.length _ (le_mk _ ?_) ⟨0, f1, by omega, g1, by omega, g2, rfl, rfl⟩ ?_
       · simp only [Vm.D]
         try simp -dsimp only [Vm.G, zA, zB, zC, zD, zE, zF, q47.1]
         repeat' first | exact .refl _ | exact .nil _ _ _ (by decide) | refine ⟨?_, ?_⟩
       · clear g1 g2 hR
         rintro m s h' ⟨i, g, hi, hR, hgn, hsm, hp, rfl⟩
         simp -dsimp only [Vm.G, zA, zB, zC, zD, zE, zF, q47.1]
         refine cond_intro (fun hcc => ?_) (fun hcc => ?_)
         · have hlt : i < l.length := by have := of_decide_eq_true hcc; omega
           have hw := hwN i (by omega)
           have hok := hx l[i] (zOb hlt)
           rw [List.drop_eq_getElem_cons hlt] at hp
           simp -dsimp only [Vm.G, zA, zB, zC, zD, zE, zF, q47.1]
           refine idx_map dlAv l i hlt ?_
           generalize l[i] = x at hok hp
           have hii : I64 (i : Int) := by unfold I64; omega
           have hun : (upd g (dlK id i) (some (dlV x))).n = g.n + 1 := rfl
           simp only [dlAv, dlCells]
           simp -dsimp only [Vm.G, zA, zB, zC, zD, zE, zF, q47.1, AV.cells]
           refine call_one (S := rdlSpec) rfl _ GaL.rfl ⟨id, i, x, hidr, hii, hok, rfl, ?_⟩
           simp -dsimp only [Vm.G, zA, zB, zC, zD, zE, zF, q47.1]
           refine call_one (S := rSetSpec) rfl _ GaL.rfl ⟨R, g, (dlK id i, dlV x), rfl, hR, by omega, fun h2 g1 g2 => ?_⟩
           rw [if_pos (right_dl id i x)] at g1
           simp -dsimp only [Vm.G, zA, zB, zC, zD, zE, zF, q47.1]
           refine kept_intro ⟨l.length - (i + 1), by omega, _, le_mk [(0, .ptr R.iv 0), (2, .sl 4 (l.map dlAv)), (4, .box [.v (.int .i64 d.id), .v (.int .i64 d.kind), .v (.int .i64 d.year), .v (.int .i64 d.frm), .v (.int .i64 d.lines)]), (8, .v (.int .i64 id)), (10, .v (.int .i64 (i + 1 : Nat)))] ?_, i + 1, _, by omega, g1, by show (upd g (dlK id i) (some (dlV x))).n ≤ f.n + 1 + (i + 1); omega, hsm.trans g2, hp, rfl⟩
           simp only [Vm.D, hw]
           try simp -dsimp only [Vm.G, zA, zB, zC, zD, zE, zF, q47.1, hw]
           repeat' first | exact .refl _ | exact .nil _ _ _ (by decide) | refine ⟨?_, ?_⟩
         · have hge : ¬ i < l.length := by have := of_decide_eq_false hcc; omega
           rw [List.drop_of_length_le (by omega)] at hp
           have hp : g = putLines id 0 l f1 := hp
           rw [← hp] at hq
           obtain ⟨o1, o2, o3, o4, o5⟩ := hd
           have hdok : ({ d with id := id, lines := (l.length : Int) } : Dc).ok := ⟨hidr, o2, o3, o4, by unfold I64; show -9223372036854775808 ≤ (l.length : Int) ∧ (l.length : Int) ≤ _; omega⟩
           simp -dsimp only [Vm.G, zA, zB, zC, zD, zE, zF, q47.1]
           refine call_one (S := rdcSpec) rfl _ GaL.rfl ⟨{ d with id := id, lines := l.length }, hdok, rfl, ?_⟩
           simp -dsimp only [Vm.G, zA, zB, zC, zD, zE, zF, q47.1]
           refine call_one (S := rSetSpec) rfl _ GaL.rfl ⟨R, g, (dcK id, dcV { d with id := id, lines := l.length }), rfl, hR, by omega, fun h2 g1 g2 => ?_⟩
           rw [if_pos (right_dc id _)] at g1
           simp -dsimp only [Vm.G, zA, zB, zC, zD, zE, zF, q47.1]
           exact hq h2 g1 (hsm.trans g2)
theorem chargeRun_n (c : Chg) : ∀ (l : List Nd) (f : Fun) (w : Bool), (chargeRun c l f w).1.n ≤ f.n + l.length
 | [], f, w => zNa _
 | n :: r, f, w => by
   unfold chargeRun
   split
   · exact zQa _ _
   · have := chargeRun_n c r (upd f (ndK (atOf c n).1) (some (ndV (atOf c n).1))) (w || (atOf c n).2.1)
     have e : (upd f (ndK (atOf c n).1) (some (ndV (atOf c n).1))).n = f.n + 1 := rfl
     rw [e] at this
     rw [zJa]; omega
theorem chargeOf_n (f : Fun) (year id : Int) (c : Chg) : (chargeOf f year id c).1.n ≤ f.n + 8 := by
 unfold chargeOf
 split
 · exact zQa _ _
 · split
   · exact zQa _ _
   · have := chargeRun_n c (pathOf f year 8 id) f false
     have := pathOf_length f year 8 id
     omega
def chargeG (mk : Dl → Chg) (year : Int) : List Dl → Fun → Bool → Fun × Bool × Int
 | [], f, w => (f, w, 0)
 | x :: r, f, w => if (chargeOf f year x.node (mk x)).2.2 ≠ 0 then ((chargeOf f year x.node (mk x)).1, false, (chargeOf f year x.node (mk x)).2.2)
   else chargeG mk year r (chargeOf f year x.node (mk x)).1 (w || (chargeOf f year x.node (mk x)).2.1)
theorem chargeG_cons (mk : Dl → Chg) (year : Int) (x : Dl) (r : List Dl) (f : Fun) (w : Bool) : chargeG mk year (x :: r) f w = if (chargeOf f year x.node (mk x)).2.2 ≠ 0 then ((chargeOf f year x.node (mk x)).1, false, (chargeOf f year x.node (mk x)).2.2)
   else chargeG mk year r (chargeOf f year x.node (mk x)).1 (w || (chargeOf f year x.node (mk x)).2.1) := rfl
theorem chargeG_congr {mk mk' : Dl → Chg} (year : Int) : ∀ (l : List Dl) (f : Fun) (w : Bool), (∀ x ∈ l, mk x = mk' x) → chargeG mk year l f w = chargeG mk' year l f w
 | [], _, _, _ => rfl
 | x :: r, f, w, h => by
   rw [chargeG_cons, chargeG_cons, h x (zLb ..), chargeG_congr year r _ _ fun y hy => h y (zMb _ hy)]
theorem chargeG_n (mk : Dl → Chg) (year : Int) : ∀ (l : List Dl) (f : Fun) (w : Bool), (chargeG mk year l f w).1.n ≤ f.n + 8 * l.length
 | [], f, w => zNa _
 | x :: r, f, w => by
   have h1 := chargeOf_n f year x.node (mk x)
   rw [chargeG_cons]
   split
   · show (chargeOf f year x.node (mk x)).1.n ≤ _
     rw [zJa]; omega
   · have := chargeG_n mk year r (chargeOf f year x.node (mk x)).1 (w || (chargeOf f year x.node (mk x)).2.1)
     rw [zJa]; omega
theorem putLines_bound (id : Int) : ∀ (l : List Dl) (i : Nat) (f : Fun), (putLines id i l f).n = f.n + l.length
 | [], _, _ => rfl
 | x :: r, i, f => by
   show (putLines id (i + 1) r (upd f (dlK id i) (some (dlV x)))).n = _
   rw [putLines_bound id r (i + 1)]
   show f.n + 1 + r.length = f.n + (r.length + 1)
   omega
theorem docsPut_n (f : Fun) (d : Dc) (l : List Dl) : (docsPut f d l).1.n ≤ f.n + 8 := by
 unfold docsPut
 split
 · exact zQa _ _
 · split
   · exact zQa _ _
   · show (putLines _ 0 l (upd f (seqKey 2) _)).n + 1 ≤ _
     rw [putLines_bound]
     show f.n + 1 + l.length + 1 ≤ _
     omega
theorem preCheck_len {l : List Ln} (h : ¬ preCheck l ≠ 0) : l.length ≤ 6 := by
 unfold preCheck at h
 split at h
 · simp at h
 · rename_i h2; omega
theorem ownL_length (l : List Ln) : (ownL l).length = l.length := by unfold ownL; rw [zIa]
def ownAt (f : Fun) (frm : Int) : List Dl := match docAt f frm with
 | some (_, l) => l
 | none => []
def takeOne (f : Fun) (frm : Int) (x : Ln) : Fun × Dl × Int :=
 if x.node < 0 then (f, .zero, 7)
 else match (ownAt f frm)[x.node.toNat]? with
   | none => (f, .zero, 7)
   | some y => if openD y < x.amt then (f, .zero, 12)
     else (upd f (dlK frm x.node) (some (dlV { y with liq := w64 (y.liq + x.amt) })), ⟨y.node, x.amt, 0, 0⟩, 0)
def takeL (frm : Int) : List Ln → Fun → List Dl → Fun × List Dl × Int
 | [], f, out => (f, out, 0)
 | x :: r, f, out => if (takeOne f frm x).2.2 ≠ 0 then ((takeOne f frm x).1, [], (takeOne f frm x).2.2)
   else takeL frm r (takeOne f frm x).1 (out ++ [(takeOne f frm x).2.1])
theorem takeL_cons (frm : Int) (x : Ln) (r : List Ln) (f : Fun) (out : List Dl) : takeL frm (x :: r) f out = if (takeOne f frm x).2.2 ≠ 0 then ((takeOne f frm x).1, [], (takeOne f frm x).2.2)
   else takeL frm r (takeOne f frm x).1 (out ++ [(takeOne f frm x).2.1]) := rfl
def takeOf (f : Fun) (kind year frm : Int) (l : List Ln) : Fun × List Dl × Int := match docAt f frm with
 | none => (f, [], 7)
 | some (d, _) => if d.kind ≠ kind ∨ d.year ≠ year then (f, [], 12) else takeL frm l f []
theorem takeOne_n (f : Fun) (frm : Int) (x : Ln) : (takeOne f frm x).1.n ≤ f.n + 1 := by
 unfold takeOne
 split
 · exact Nat.le_succ _
 · split
   · exact Nat.le_succ _
   · split
     · exact Nat.le_succ _
     · exact zNa _
theorem takeL_n (frm : Int) : ∀ (l : List Ln) (f : Fun) (out : List Dl), (takeL frm l f out).1.n ≤ f.n + l.length ∧ (takeL frm l f out).2.1.length ≤ out.length + l.length
 | [], f, out => ⟨zNa _, zNa _⟩
 | x :: r, f, out => by
   have h1 := takeOne_n f frm x
   rw [takeL_cons]
   split
   · exact ⟨by rw [zJa]; show (takeOne f frm x).1.n ≤ _; omega, by simp⟩
   · have := takeL_n frm r (takeOne f frm x).1 (out ++ [(takeOne f frm x).2.1])
     rw [zIb] at this
     simp only [zJa, zMa] at this ⊢
     omega
theorem takeOf_n (f : Fun) (kind year frm : Int) (l : List Ln) : (takeOf f kind year frm l).1.n ≤ f.n + l.length ∧ (takeOf f kind year frm l).2.1.length ≤ l.length := by
 unfold takeOf
 split
 · exact ⟨zQa _ _, by simp⟩
 · split
   · exact ⟨zQa _ _, by simp⟩
   · have := takeL_n frm l f []
     simpa using this
def linesFrom (f : Fun) (year frm : Int) (l : List Ln) : Fun × List Dl × Int := if frm ≠ 0 then takeOf f 1 year frm l else (f, ownL l, 0)
theorem linesFrom_n (f : Fun) (year frm : Int) (l : List Ln) : (linesFrom f year frm l).1.n ≤ f.n + l.length ∧ (linesFrom f year frm l).2.1.length ≤ l.length := by
 unfold linesFrom
 split
 · exact takeOf_n f 1 year frm l
 · exact ⟨zQa _ _, by show (ownL l).length ≤ _; rw [ownL_length]; exact zNa _⟩
def mkE (frm : Int) (x : Dl) : Chg := ⟨w64 (0 - (if frm ≠ 0 then x.orig else 0)), x.orig, 0⟩
def encNew (f : Fun) (year frm : Int) (l : List Ln) : Fun × Int × Bool × Int :=
 if checkY f year ≠ 0 then (f, 0, false, checkY f year)
 else if preCheck l ≠ 0 then (f, 0, false, preCheck l)
 else if (linesFrom f year frm l).2.2 ≠ 0 then ((linesFrom f year frm l).1, 0, false, (linesFrom f year frm l).2.2)
 else if (chargeG (mkE frm) year (linesFrom f year frm l).2.1 (linesFrom f year frm l).1 false).2.2 ≠ 0 then ((chargeG (mkE frm) year (linesFrom f year frm l).2.1 (linesFrom f year frm l).1 false).1, 0, false, (chargeG (mkE frm) year (linesFrom f year frm l).2.1 (linesFrom f year frm l).1 false).2.2)
 else ((docsPut (chargeG (mkE frm) year (linesFrom f year frm l).2.1 (linesFrom f year frm l).1 false).1 ⟨0, 2, year, frm, 0⟩ (linesFrom f year frm l).2.1).1, (docsPut (chargeG (mkE frm) year (linesFrom f year frm l).2.1 (linesFrom f year frm l).1 false).1 ⟨0, 2, year, frm, 0⟩ (linesFrom f year frm l).2.1).2.1,
   (chargeG (mkE frm) year (linesFrom f year frm l).2.1 (linesFrom f year frm l).1 false).2.1 && ((docsPut (chargeG (mkE frm) year (linesFrom f year frm l).2.1 (linesFrom f year frm l).1 false).1 ⟨0, 2, year, frm, 0⟩ (linesFrom f year frm l).2.1).2.2 == 0),
   (docsPut (chargeG (mkE frm) year (linesFrom f year frm l).2.1 (linesFrom f year frm l).1 false).1 ⟨0, 2, year, frm, 0⟩ (linesFrom f year frm l).2.1).2.2)
theorem encNew_n (f : Fun) (year frm : Int) (l : List Ln) : (encNew f year frm l).1.n ≤ f.n + 62 := by
 unfold encNew
 split
 · exact zQa _ _
 · split
   · exact zQa _ _
   · rename_i h1 h2
     have hl := preCheck_len h2
     have h3 := linesFrom_n f year frm l
     generalize linesFrom f year frm l = q at h3 ⊢
     obtain ⟨qf, qo, qe⟩ := q
     simp only at h3 ⊢
     have hc := chargeG_n (mkE frm) year qo qf false
     generalize chargeG (mkE frm) year qo qf false = r at hc ⊢
     obtain ⟨rf, rw, re⟩ := r
     simp only at hc ⊢
     have hp := docsPut_n rf ⟨0, 2, year, frm, 0⟩ qo
     split
     · simp only; omega
     · split
       · simp only; omega
       · simp only; omega
theorem lineOf_ok {key val : List UInt8} {n : Dl} (h : lineOf key val = some n) : n.ok := by
 unfold lineOf at h
 cases hl : numsPair 76 2 4 key val with
 | none => rw [hl] at h; cases h
 | some l =>
   rw [hl] at h
   cases h
   have := numsPair_i64 hl
   exact ⟨i64_getD this 2, i64_getD this 3, i64_getD this 4, i64_getD this 5⟩
theorem lineAt_ok {f : Fun} {id i : Int} {x : Dl} (h : lineAt f id i = some x) : x.ok := by
 unfold lineAt at h
 cases h1 : f (dlK id i) with
 | none => rw [h1] at h; cases h
 | some v => rw [h1, zLa] at h; exact lineOf_ok h
theorem linesAt_ok {f : Fun} {id : Int} : ∀ {n : Nat} {l : List Dl}, linesAt f id n = some l → ∀ x ∈ l, x.ok
 | 0, l, h => by cases h; simp
 | n + 1, l, h => by
   unfold linesAt at h
   cases h1 : linesAt f id n with
   | none => rw [h1] at h; cases h
   | some l1 =>
     rw [h1] at h
     cases h2 : lineAt f id n with
     | none => rw [zLa, h2] at h; cases h
     | some x =>
       rw [zLa, h2] at h
       cases h
       intro y hy
       rcases List.mem_append.1 hy with hy | hy
       · exact linesAt_ok h1 y hy
       · rw [zJb] at hy; subst hy; exact lineAt_ok h2
theorem docAt_ok {f : Fun} {id : Int} {d : Dc} {l : List Dl} (h : docAt f id = some (d, l)) : ∀ x ∈ l, x.ok := by
 unfold docAt at h
 cases h1 : docHead f id with
 | none => rw [h1] at h; cases h
 | some d1 =>
   rw [h1, zLa] at h
   cases h2 : linesAt f id d1.lines.toNat with
   | none => rw [h2] at h; cases h
   | some l1 =>
     rw [h2] at h
     cases h
     exact linesAt_ok h2
theorem ownAt_some {f : Fun} {id : Int} {d : Dc} {l : List Dl} (h : docAt f id = some (d, l)) : ownAt f id = l := by unfold ownAt; rw [h]
theorem ownAt_none {f : Fun} {id : Int} (h : docAt f id = none) : ownAt f id = [] := by unfold ownAt; rw [h]
theorem ownAt_ok (f : Fun) (id : Int) : ∀ x ∈ ownAt f id, x.ok := by
 unfold ownAt
 split
 · rename_i h; exact docAt_ok h
 · simp
theorem docsSet_own {f : Fun} {id i : Int} (x : Dl) (h0 : 0 ≤ i) (hi : i < (ownAt f id).length) : docsSet f id i x = (upd f (dlK id i) (some (dlV x)), 0) := by
 cases hd : docAt f id with
 | none =>
   rw [ownAt_none hd] at hi
   simp at hi
   omega
 | some p =>
   obtain ⟨d, l⟩ := p
   rw [ownAt_some hd] at hi
   unfold docsSet
   rw [hd]
   simp only
   rw [if_pos ⟨h0, hi⟩]
theorem Dl.zero_ok : Dl.zero.ok := by simp [Dl.ok, Dl.zero, I64]
theorem takeOne_ok (f : Fun) (frm : Int) (x : Ln) (hx : x.ok) : (takeOne f frm x).2.1.ok := by
 unfold takeOne
 split
 · exact Dl.zero_ok
 · split
   · exact Dl.zero_ok
   · rename_i y hy
     split
     · exact Dl.zero_ok
     · have hyo := ownAt_ok f frm y (List.mem_of_getElem? hy)
       have z : I64 0 := by unfold I64; omega
       exact ⟨hyo.1, hx.2.2.2, z, z⟩
theorem takeL_ok (frm : Int) : ∀ (l : List Ln) (f : Fun) (out : List Dl), (∀ x ∈ l, x.ok) → (∀ x ∈ out, x.ok) → ∀ x ∈ (takeL frm l f out).2.1, x.ok
 | [], _, _, _, h => h
 | x :: r, f, out, hl, ho => by
   rw [takeL_cons]
   split
   · simp
   · refine takeL_ok frm r _ _ (fun y hy => hl y (zMb _ hy)) fun y hy => ?_
     rcases List.mem_append.1 hy with hy | hy
     · exact ho y hy
     · rw [zJb] at hy; subst hy; exact takeOne_ok f frm x (hl x (zLb ..))
theorem takeOf_ok (f : Fun) (kind year frm : Int) (l : List Ln) (hl : ∀ x ∈ l, x.ok) : ∀ x ∈ (takeOf f kind year frm l).2.1, x.ok := by
 unfold takeOf
 split
 · simp
 · split
   · simp
   · exact takeL_ok frm l f [] hl (by simp)
theorem linesFrom_ok (f : Fun) (year frm : Int) (l : List Ln) (hl : ∀ x ∈ l, x.ok) : ∀ x ∈ (linesFrom f year frm l).2.1, x.ok := by
 unfold linesFrom
 split
 · exact takeOf_ok f 1 year frm l hl
 · exact ownL_ok hl
inductive All2 (R : Nd → Nd → Prop) : List Nd → List Nd → Prop
 | nil : All2 R [] []
 | cons {a b : Nd} {l l' : List Nd} (h : R a b) (t : All2 R l l') : All2 R (a :: l) (b :: l')
theorem All2.len {R : Nd → Nd → Prop} : ∀ {l l' : List Nd}, All2 R l l' → l.length = l'.length
 | _, _, .nil => rfl
 | _, _, .cons _ t => by rw [zJa, zJa, t.len]
theorem All2.get {R : Nd → Nd → Prop} : ∀ {l l' : List Nd}, All2 R l l' → ∀ (i : Nat) (h1 : i < l.length) (h2 : i < l'.length), R l[i] l'[i]
 | _, _, .cons h _, 0, _, _ => h
 | _, _, .cons _ t, i + 1, h1, h2 => t.get i (by simpa using h1) (by simpa using h2)
theorem w64_id {n : Int} (h1 : -9223372036854775808 ≤ n) (h2 : n ≤ 9223372036854775807) : w64 n = n := wrap_i64 h1 h2
end Go.Proofs.Lx
namespace Go.Proofs.Lx
open Go.Vm
def EvenT (T : List Ln) : Prop := (∀ a, tot (fun x => if clampK x.fund = a then x.amt else 0) T = 0) ∧
 tot (fun x => if clampK x.obj = 1900 then x.amt else 0) T + tot (fun x => if clampK x.obj = 2900 then x.amt else 0) T = 0
theorem EvenT.append {T U : List Ln} (h : EvenT T) (h' : EvenT U) : EvenT (T ++ U) := by
 refine ⟨fun a => ?_, ?_⟩
 · rw [tot_append, h.1, h'.1]; rfl
 · rw [tot_append, tot_append]
   have := h.2
   have := h'.2
   omega
def jK (id i : Int) : List UInt8 := keyOf 74 [id, i]
def jV (x : Ln) : List UInt8 := packs 8 [x.fund, x.obj, x.amt]
def postL (y id : Int) : Nat → List Ln → Fun → Fun × Int
 | _, [], f => (f, 0)
 | i, x :: r, f => if (balAdd (upd f (jK id i) (some (jV x))) (balK y x.fund x.obj) x.amt).2 ≠ 0 then balAdd (upd f (jK id i) (some (jV x))) (balK y x.fund x.obj) x.amt
   else postL y id (i + 1) r (balAdd (upd f (jK id i) (some (jV x))) (balK y x.fund x.obj) x.amt).1
theorem postL_n (y id : Int) : ∀ (A : List Ln) (i : Nat) (f : Fun), (postL y id i A f).1.n ≤ f.n + 2 * A.length
 | [], i, f => zQa _ _
 | x :: r, i, f => by
   unfold postL
   have h1 := balAdd_n (upd f (jK id i) (some (jV x))) (balK y x.fund x.obj) x.amt
   have h2 : (upd f (jK id i) (some (jV x))).n = f.n + 1 := rfl
   rw [zJa]
   split
   · omega
   · have := postL_n y id r (i + 1) (balAdd (upd f (jK id i) (some (jV x))) (balK y x.fund x.obj) x.amt).1
     omega
def enK (id : Int) : List UInt8 := keyOf 69 [id]
def enV (y kind lines of by' : Int) : List UInt8 := packs 8 [y, kind, lines, of, by']
def standF (f : Fun) (y kind of : Int) (all : List Ln) : Fun × Int × Int :=
 if checkY f y ≠ 0 then (f, 0, checkY f y)
 else if readOf f (seqKey 1) < 0 ∨ 4294967294 < readOf f (seqKey 1) then (f, 0, 9)
 else if (postL y (readOf f (seqKey 1) + 1) 0 all (upd f (seqKey 1) (some (be 8 (readOf f (seqKey 1) + 1))))).2 ≠ 0 then
   ((postL y (readOf f (seqKey 1) + 1) 0 all (upd f (seqKey 1) (some (be 8 (readOf f (seqKey 1) + 1))))).1, 0, (postL y (readOf f (seqKey 1) + 1) 0 all (upd f (seqKey 1) (some (be 8 (readOf f (seqKey 1) + 1))))).2)
 else (upd (postL y (readOf f (seqKey 1) + 1) 0 all (upd f (seqKey 1) (some (be 8 (readOf f (seqKey 1) + 1))))).1 (enK (readOf f (seqKey 1) + 1)) (some (enV y kind all.length of 0)), readOf f (seqKey 1) + 1, 0)
def entryF (f : Fun) (y kind of : Int) (l all : List Ln) : Fun × Int × Int := if l.length = 0 ∨ 200 < l.length then (f, 0, 1) else standF f y kind of all
theorem stand_n (f : Fun) (y kind of : Int) (all : List Ln) : (standF f y kind of all).1.n ≤ f.n + 2 * all.length + 2 := by
 unfold standF
 have h := postL_n y (readOf f (seqKey 1) + 1) all 0 (upd f (seqKey 1) (some (be 8 (readOf f (seqKey 1) + 1))))
 have e : (upd f (seqKey 1) (some (be 8 (readOf f (seqKey 1) + 1)))).n = f.n + 1 := rfl
 rw [e] at h
 split
 · show f.n ≤ _; omega
 · split
   · show f.n ≤ _; omega
   · split
     · show (postL _ _ _ _ _).1.n ≤ _; omega
     · show (postL _ _ _ _ _).1.n + 1 ≤ _; omega
theorem entry_n (f : Fun) (y kind of : Int) (l all : List Ln) : (entryF f y kind of l all).1.n ≤ f.n + 2 * all.length + 2 := by
 unfold entryF
 split
 · show f.n ≤ _; omega
 · exact stand_n f y kind of all
def twoL (f : Fun) (y : Int) (x : Dl) : List Ln := match nodeAt f y x.node with
 | some n => [⟨n.fund, n.obj, 0, x.orig⟩, ⟨n.fund, 1010, 0, w64 (0 - x.orig)⟩]
 | none => []
def expLines (f : Fun) (y : Int) (l : List Dl) : List Ln := l.flatMap (twoL f y)
theorem two_len (f : Fun) (y : Int) (x : Dl) : (twoL f y x).length ≤ 2 := by unfold twoL; split <;> simp
theorem exp_len (f : Fun) (y : Int) : ∀ l : List Dl, (expLines f y l).length ≤ 2 * l.length
 | [] => zNa _
 | x :: r => by
   have := exp_len f y r
   have h2 := two_len f y x
   show (twoL f y x ++ expLines f y r).length ≤ _
   rw [zIb, zJa]; omega
def linesE (f : Fun) (year frm : Int) (l : List Ln) : Fun × List Dl × Int :=
 if frm = 0 then (f, l.map fun x => ⟨x.node, x.amt, x.amt, 0⟩, 0)
 else ((takeOf f 2 year frm l).1, (takeOf f 2 year frm l).2.1.map fun x => { x with liq := x.orig }, (takeOf f 2 year frm l).2.2)
def mkX (frm : Int) (x : Dl) : Chg := ⟨0, w64 (0 - (if frm ≠ 0 then x.orig else 0)), x.orig⟩
def bookF (f : Fun) (year frm : Int) (l : List Dl) (r : List Ln) : Fun × Int × Int :=
 if (docsPut f ⟨0, 3, year, frm, 0⟩ l).2.2 ≠ 0 then ((docsPut f ⟨0, 3, year, frm, 0⟩ l).1, 0, (docsPut f ⟨0, 3, year, frm, 0⟩ l).2.2)
 else if (entryF (docsPut f ⟨0, 3, year, frm, 0⟩ l).1 year 3 (docsPut f ⟨0, 3, year, frm, 0⟩ l).2.1 (expLines (docsPut f ⟨0, 3, year, frm, 0⟩ l).1 year l) (expLines (docsPut f ⟨0, 3, year, frm, 0⟩ l).1 year l ++ balanceL r)).2.2 ≠ 0 then
   ((entryF (docsPut f ⟨0, 3, year, frm, 0⟩ l).1 year 3 (docsPut f ⟨0, 3, year, frm, 0⟩ l).2.1 (expLines (docsPut f ⟨0, 3, year, frm, 0⟩ l).1 year l) (expLines (docsPut f ⟨0, 3, year, frm, 0⟩ l).1 year l ++ balanceL r)).1, 0,
     (entryF (docsPut f ⟨0, 3, year, frm, 0⟩ l).1 year 3 (docsPut f ⟨0, 3, year, frm, 0⟩ l).2.1 (expLines (docsPut f ⟨0, 3, year, frm, 0⟩ l).1 year l) (expLines (docsPut f ⟨0, 3, year, frm, 0⟩ l).1 year l ++ balanceL r)).2.2)
 else ((entryF (docsPut f ⟨0, 3, year, frm, 0⟩ l).1 year 3 (docsPut f ⟨0, 3, year, frm, 0⟩ l).2.1 (expLines (docsPut f ⟨0, 3, year, frm, 0⟩ l).1 year l) (expLines (docsPut f ⟨0, 3, year, frm, 0⟩ l).1 year l ++ balanceL r)).1, (docsPut f ⟨0, 3, year, frm, 0⟩ l).2.1, 0)
def expAt (f : Fun) (year frm : Int) (l : List Ln) : Fun × List Dl :=
 ((docsPut (chargeG (mkX frm) year (linesE f year frm l).2.1 (linesE f year frm l).1 false).1 ⟨0, 3, year, frm, 0⟩ (linesE f year frm l).2.1).1, (linesE f year frm l).2.1)
def expNew (f : Fun) (year frm : Int) (l r : List Ln) : Fun × Int × Bool × Int :=
 if checkY f year ≠ 0 then (f, 0, false, checkY f year)
 else if preCheck l ≠ 0 then (f, 0, false, preCheck l)
 else if (linesE f year frm l).2.2 ≠ 0 then ((linesE f year frm l).1, 0, false, (linesE f year frm l).2.2)
 else if (chargeG (mkX frm) year (linesE f year frm l).2.1 (linesE f year frm l).1 false).2.2 ≠ 0 then ((chargeG (mkX frm) year (linesE f year frm l).2.1 (linesE f year frm l).1 false).1, 0, false, (chargeG (mkX frm) year (linesE f year frm l).2.1 (linesE f year frm l).1 false).2.2)
 else ((bookF (chargeG (mkX frm) year (linesE f year frm l).2.1 (linesE f year frm l).1 false).1 year frm (linesE f year frm l).2.1 r).1, (bookF (chargeG (mkX frm) year (linesE f year frm l).2.1 (linesE f year frm l).1 false).1 year frm (linesE f year frm l).2.1 r).2.1,
   (chargeG (mkX frm) year (linesE f year frm l).2.1 (linesE f year frm l).1 false).2.1 && ((bookF (chargeG (mkX frm) year (linesE f year frm l).2.1 (linesE f year frm l).1 false).1 year frm (linesE f year frm l).2.1 r).2.2 == 0),
   (bookF (chargeG (mkX frm) year (linesE f year frm l).2.1 (linesE f year frm l).1 false).1 year frm (linesE f year frm l).2.1 r).2.2)
end Go.Proofs.Lx
namespace Go.Proofs.Lx
open Go.Vm
attribute [local irreducible] awpArr awpBin awpMake awpAppend awpCvX awpStrOf awpBinX awpSlice awpBS awpStore awpAlloc awpCopy awpIndex awpDraw awpIdxX awpFa awpField awpLookup awpUpdate awpDelete awpClear awpRange awpNext awpEntry awpBuild awpClearS awpIdxL awpTree appB awpIdxO eltA treeA
theorem jK_length (id i : Int) : (jK id i).length = 9 := by simp [jK, keyOf, packs, be_length]
theorem jV_length (x : Ln) : (jV x).length = 24 := by simp [jV, packs, be_length]
theorem right_j (id i : Int) (x : Ln) : rightKV (jK id i) (jV x) = true := by simp [rightKV, jK_length, jV_length]
theorem enK_length (id : Int) : (enK id).length = 5 := by simp [enK, keyOf, packs, be_length]
theorem enV_length (a b c d e : Int) : (enV a b c d e).length = 40 := by simp [enV, packs, be_length]
theorem right_en (id a b c d e : Int) : rightKV (enK id) (enV a b c d e) = true := by simp [rightKV, enK_length, enV_length]
theorem does_recLines : Does Tryz.prog 278 (tabSpec 74 2 3) := by
 refine dA good_nil Tryz.func278 rfl (by decide +kernel) ?_
 rintro args h Q ⟨rfl, hq⟩
 refine ⟨by simp [Tryz.f278], ?_⟩
 simp -dsimp only [Vm.G, zA, zB, zC, zD, zE, zF, q278.1]
 exact hq
theorem does_recEntries : Does Tryz.prog 225 (tabSpec 69 1 5) := by
 refine dA good_nil Tryz.func225 rfl (by decide +kernel) ?_
 rintro args h Q ⟨rfl, hq⟩
 refine ⟨by simp [Tryz.f225], ?_⟩
 simp -dsimp only [Vm.G, zA, zB, zC, zD, zE, zF, q225.1]
 exact hq
def rlnSpec : Vm.Spec := fun args h Q => ∃ (id i : Int) (x : Ln), I64 id ∧ I64 i ∧ x.ok ∧ args = [.v (.int .i64 id), .v (.int .i64 i), lnAv x] ∧ Q (.agg [.sl 1 ((jK id i).map encB), .sl 1 ((jV x).map encB)]) h
theorem does_recLn : Does Tryz.prog 223 rlnSpec := by
 refine dA (good_cons does_recLines (good_cons does_pair good_nil)) Tryz.func223 rfl (by decide +kernel) ?_
 rintro args h Q ⟨id, i, x, hid, hi, ⟨o1, o2, o3, o4⟩, rfl, hq⟩
 refine ⟨by simp [Tryz.f223], ?_⟩
 simp only [lnAv, lnCells]
 simp -dsimp only [Vm.G, zA, zB, zC, zD, zE, zF, q223.1]
 refine draw_cont [5] (.take 1 (.take 2 (.take 3 (.take 4 (.take 5 (.take 6 (.take 7 (.take 8 (.alt 0 (.alt 9 (.alt 10 (.alt 11 (.done) .stop) .stop) .stop) (.alt 9 (.alt 0 (.alt 10 (.alt 11 (.done) .stop) .stop) .stop) (.stop))))))))))) (fun s h2 => h2 = h ∧ s 6 = .box [.sl 1 ((jK id i).map encB), .sl 1 ((jV x).map encB)]) (by kernel_rfl) (by kernel_rfl) (by kernel_rfl) (by decide) ?_ ?_
 · have hm : ∀ m ∈ [id, i, x.fund, x.obj, x.amt], I64 m := fun m hm => by
     simp only [zXa, zUa, or_false] at hm
     rcases hm with rfl | rfl | rfl | rfl | rfl <;> assumption
   have e1 : keyOf 74 (([id, i, x.fund, x.obj, x.amt] : List Int).take 2) = jK id i := rfl
   have e2 : packOf (([id, i, x.fund, x.obj, x.amt] : List Int).drop 2) = jV x := rfl
   repeat' first
     | with_reducible exact True.intro
     | simp -dsimp only [Vm.G, zA, zB, zC, zD, zE, zF, q223.1, e1, e2]
     | refine call_one (S := tabSpec 74 2 3) rfl _ GaL.rfl ⟨rfl, ?_⟩
     | refine call_one (S := pairSpec) rfl _ GaL.rfl ⟨74, 2, 3, [id, i, x.fund, x.obj, x.amt], by simp, by simp, hm, rfl, ?_⟩
     | refine bs_intro zr3 (by decide) (by decide) rfl rfl (by simp [solid, AV.cells]) ?_
     | refine tree_alt ?_ ?_
     | repeat' first | rfl | exact True.intro | refine And.intro ?_ ?_
 · rintro s h2 ⟨rfl, e6⟩
   simp -dsimp only [Vm.G, zA, zB, zC, zD, zE, zF, q223.1, e6]
   exact hq
structure En where
 id : Int
 year : Int
 kind : Int
 lines : Int
 of' : Int
 by' : Int
def enCells (e : En) : List AV := [.v (.int .i64 e.id), .v (.int .i64 e.year), .v (.int .i64 e.kind), .v (.int .i64 e.lines), .v (.int .i64 e.of'), .v (.int .i64 e.by')]
def En.ok (e : En) : Prop := I64 e.id ∧ I64 e.year ∧ I64 e.kind ∧ I64 e.lines ∧ I64 e.of' ∧ I64 e.by'
def renSpec : Vm.Spec := fun args h Q => ∃ e : En, e.ok ∧ args = [.agg (enCells e)] ∧ Q (.agg [.sl 1 ((enK e.id).map encB), .sl 1 ((enV e.year e.kind e.lines e.of' e.by').map encB)]) h
theorem does_recEn : Does Tryz.prog 183 renSpec := by
 refine dA (good_cons does_recEntries (good_cons does_pair good_nil)) Tryz.func183 rfl (by decide +kernel) ?_
 rintro args h Q ⟨d, ⟨o1, o2, o3, o4, o5, o6⟩, rfl, hq⟩
 refine ⟨by simp [Tryz.f183], ?_⟩
 simp only [enCells]
 simp -dsimp only [Vm.G, zA, zB, zC, zD, zE, zF, q183.1]
 refine draw_cont [1] (.take 1 (.take 2 (.take 3 (.take 4 (.take 5 (.take 6 (.take 7 (.take 8 (.take 9 (.take 10 (.take 11 (.take 12 (.alt 0 (.alt 13 (.alt 14 (.alt 15 (.done) .stop) .stop) .stop) (.alt 13 (.alt 0 (.alt 14 (.alt 15 (.done) .stop) .stop) .stop) (.stop))))))))))))))) (fun s h2 => h2 = h ∧ s 2 = .box [.sl 1 ((enK d.id).map encB), .sl 1 ((enV d.year d.kind d.lines d.of' d.by').map encB)]) (by kernel_rfl) (by kernel_rfl) (by kernel_rfl) (by decide) ?_ ?_
 · have hm : ∀ m ∈ [d.id, d.year, d.kind, d.lines, d.of', d.by'], I64 m := fun m hm => by
     simp only [zXa, zUa, or_false] at hm
     rcases hm with rfl | rfl | rfl | rfl | rfl | rfl <;> assumption
   have e1 : keyOf 69 (([d.id, d.year, d.kind, d.lines, d.of', d.by'] : List Int).take 1) = enK d.id := rfl
   have e2 : packOf (([d.id, d.year, d.kind, d.lines, d.of', d.by'] : List Int).drop 1) = enV d.year d.kind d.lines d.of' d.by' := rfl
   repeat' first
     | with_reducible exact True.intro
     | simp -dsimp only [Vm.G, zA, zB, zC, zD, zE, zF, q183.1, e1, e2]
     | refine call_one (S := tabSpec 69 1 5) rfl _ GaL.rfl ⟨rfl, ?_⟩
     | refine call_one (S := pairSpec) rfl _ GaL.rfl ⟨69, 1, 5, [d.id, d.year, d.kind, d.lines, d.of', d.by'], by simp, by simp, hm, rfl, ?_⟩
     | refine bs_intro zr3 (by decide) (by decide) rfl rfl (by simp [solid, AV.cells]) ?_
     | refine tree_alt ?_ ?_
     | repeat' first | rfl | exact True.intro | refine And.intro ?_ ?_
 · rintro s h2 ⟨rfl, e2⟩
   simp -dsimp only [Vm.G, zA, zB, zC, zD, zE, zF, q183.1, e2]
   exact hq
theorem does_jset : Does Tryz.prog 182 dsetSpec := by
 refine dA (good_cons does_vput good_nil) Tryz.func182 rfl (by decide +kernel) ?_
 rintro args h Q ⟨V, f, k, v, rfl, hr, hV, hq⟩
 refine ⟨by simp [Tryz.f182], ?_⟩
 simp -dsimp only [Vm.G, zA, zB, zC, zD, zE, zF, q182.1]
 refine call_one (S := vputSpec) rfl _ GaL.rfl ⟨V, f, k, v, rfl, hV, fun _ h' g1 g2 => ?_, fun hc => by rw [hr] at hc; cases hc⟩
 simp -dsimp only [Vm.G, zA, zB, zC, zD, zE, zF, q182.1]
 exact hq h' g1 g2
def postSpec : Vm.Spec := fun args h Q => ∃ (V : VId) (f : Fun) (year id i : Int) (x : Ln), I64 id ∧ I64 i ∧ x.ok ∧ args = [.agg [.ptr V.iv 0], .v (.int .i64 year), .v (.int .i64 id), .v (.int .i64 i), lnAv x] ∧ isView h V f ∧
 ∀ h', isView h' V (balAdd (upd f (jK id i) (some (jV x))) (balK year x.fund x.obj) x.amt).1 → Same h h' [V.ic] → Q (.v (.int .i64 (balAdd (upd f (jK id i) (some (jV x))) (balK year x.fund x.obj) x.amt).2)) h'
theorem does_post : Does Tryz.prog 181 postSpec := by
 refine dA (good_cons does_recLn (good_cons does_jset (good_cons does_balAdd good_nil))) Tryz.func181 rfl (by decide +kernel) ?_
 rintro args h Q ⟨V, f, year, id, i, x, hid, hi, hx, rfl, hV, hq⟩
 refine ⟨by simp [Tryz.f181], ?_⟩
 simp only [lnAv, lnCells]
 simp -dsimp only [Vm.G, zA, zB, zC, zD, zE, zF, q181.1]
 refine draw_cont [5, 9] (.take 0 (.take 1 (.take 2 (.take 3 (.alt 4 (.alt 5 (.alt 6 (.done) .stop) .stop) .stop))))) (fun s h' => isView h' V (upd f (jK id i) (some (jV x))) ∧ Same h h' [V.ic] ∧ s 11 = .v (.int .i64 0) ∧ s 1 = .v (.int .i64 year) ∧ s 5 = .eptr [.ptr V.iv 0] ∧ s 9 = .eptr [.v (.int .i64 x.fund), .v (.int .i64 x.obj), .v (.int .i64 x.node), .v (.int .i64 x.amt)]) (by kernel_rfl) (by kernel_rfl) (by kernel_rfl) (by decide) ?_ ?_
 · simp -dsimp only [Vm.G, zA, zB, zC, zD, zE, zF, q181.1, AV.cells]
   refine call_one (S := rlnSpec) rfl _ GaL.rfl ⟨id, i, x, hid, hi, hx, rfl, ?_⟩
   simp -dsimp only [Vm.G, zA, zB, zC, zD, zE, zF, q181.1]
   refine call_one (S := dsetSpec) rfl _ GaL.rfl ⟨V, f, jK id i, jV x, rfl, right_j id i x, hV, fun h2 g1 g2 => ?_⟩
   simp -dsimp only [Vm.G, zA, zB, zC, zD, zE, zF, q181.1]
   refine ⟨g1, g2, ?_⟩
   repeat' first | rfl | exact True.intro | refine And.intro ?_ ?_
 · rintro s h2 ⟨g1, g2, e11, e1, e5, e9⟩
   simp -dsimp only [Vm.G, zA, zB, zC, zD, zE, zF, q181.1, e11, e1, e5, e9, bne_self_eq_false]
   refine call_one (S := balAddSpec) rfl _ GaL.rfl ⟨V, upd f (jK id i) (some (jV x)), year, x, rfl, g1, fun h3 g3 g4 => ?_⟩
   simp -dsimp only [Vm.G, zA, zB, zC, zD, zE, zF, q181.1]
   exact hq h3 g3 (g2.trans g4)
end Go.Proofs.Lx
namespace Go.Proofs.Lx
open Go.Vm
end Go.Proofs.Lx
