/- What the functions of the program do: their contracts. -/
import Derived.Test.YtneohggmipeknabGreatDoorV2
import Derived.Test.YtneohggmipeknabGreatDoorTFs
import Derived.Test.YtneohggmipeknabGreatDoorW0
import Derived.Test.YtneohggmipeknabGreatDoorShelfLn
import Derived.Test.YtneohggmipeknabGreatDoorShelfGr
open List renaming lookup → zA, length_cons → zIa, length_map → zJa, mem_cons_self → zKa, mem_cons_of_mem → zMa, mem_singleton → zNa, mem_cons → zOa, length_nil → zPa, append_nil → zQa, getElem?_eq_getElem → zSa, mem_map → zTa, getElem?_eq_none → zUa, getElem?_append_right → zVa, getElem?_set_ne → zWa, take_of_length_le → zXa, not_mem_nil → zYa, nil_append → zIb, finRange → zJb, mem_append → zKb, length_append → zOb, map_nil → zRb, map_cons → zSb, length_take → zTb, getElem_mem → zUb
open Nat renaming reduceAdd → zB, reduceBEq → zC, reduceLeDiff → zF, le_refl → zLa, le_add_right → zMb, lt_or_ge → zQb
open Int renaming reduceBNe → zD, reduceBEq → zE, toNat_natCast → zNb
open Bool renaming true_beq → zG, false_beq → zH, eq_false_or_eq_true → zLb
open Option renaming bind_some → zRa, toList → zPb
set_option maxRecDepth 20000
set_option maxHeartbeats 16000000
set_option linter.unusedSimpArgs false
set_option linter.unusedVariables false
namespace Go.Proofs.Lx
open Go.Vm
attribute [local irreducible] awpArr awpBin awpMake awpAppend awpCvX awpStrOf awpBinX awpSlice awpBS awpStore awpAlloc awpCopy awpIndex awpDraw awpIdxX awpFa awpField awpLookup awpUpdate awpDelete awpClear awpRange awpNext awpEntry awpBuild awpClearS awpIdxL awpTree appB
def rRightSpec : Vm.Spec := fun args h Q => ∃ k v : List UInt8, args = [.sl 1 (k.map encB), .sl 1 (v.map encB)] ∧ Q (.v (.bool (rightKV k v))) h
theorem does_rRight : Does Tryz.prog 120 rRightSpec := by
 refine dA good_nil Tryz.func120 rfl (by decide +kernel) ?_
 rintro args h Q ⟨k, v, rfl, hq⟩
 refine ⟨by simp [Tryz.f120], ?_⟩
 simp -dsimp only [Vm.E, zA, zB, zC, zD, zE, zG, zH, Tryz.underlying107]
 by_cases d1 : 1 ≤ k.length
 · have c1 : decide ((k.length : Int) ≥ 1) = true := decide_eq_true (by omega)
   simp -dsimp only [Vm.E, zA, zB, zC, zD, zE, zG, zH, c1, Tryz.underlying107]
   by_cases d2 : k.length ≤ 32
   · have c2 : decide ((k.length : Int) ≤ 32) = true := decide_eq_true (by omega)
     simp -dsimp only [Vm.E, zA, zB, zC, zD, zE, zG, zH, c2, Tryz.underlying107, Tryz.results120]
     have : rightKV k v = decide ((v.length : Int) ≤ 120) := by
       unfold rightKV
       have e1 : ¬ k.length < 1 := by omega
       have e2 : ¬ 32 < k.length := by omega
       by_cases e : v.length ≤ 120
       · have : ¬ 120 < v.length := by omega
         have e3 : ((v.length : Int) ≤ 120) := by omega
         have e4 : ¬ ((120 : Int) < v.length) := by omega
         have e5 : ¬ ((32 : Int) < k.length) := by omega
         have e6 : ¬ ((k.length : Int) < 1) := by omega
         simp [e3, e4, e5, e6]
       · have e3 : ¬ ((v.length : Int) ≤ 120) := by omega
         have e4 : ((120 : Int) < v.length) := by omega
         simp [e3, e4]
     rw [← this]; exact hq
   · have c2 : decide ((k.length : Int) ≤ 32) = false := decide_eq_false (by omega)
     simp -dsimp only [Vm.E, zA, zB, zC, zD, zE, zG, zH, c2, Tryz.underlying107, Tryz.results120]
     have : rightKV k v = false := by unfold rightKV; simp; omega
     rw [this] at hq; exact hq
 · have c1 : decide ((k.length : Int) ≥ 1) = false := decide_eq_false (by omega)
   simp -dsimp only [Vm.E, zA, zB, zC, zD, zE, zG, zH, c1, Tryz.underlying107, Tryz.results120]
   have : rightKV k v = false := by unfold rightKV; simp; omega
   rw [this] at hq; exact hq
def tabObj (l : List KV) : AObj := .cells [.sl 2 (l.map kvAv)]
def tGetSpec : Vm.Spec := fun args h Q => ∃ (i : Nat) (l : List KV) (k : List UInt8), args = [.ptr i 0, .sl 1 (k.map encB)] ∧ h[i]? = some (tabObj l) ∧ l.length ≤ 1073741824 ∧ (∀ p ∈ l, p.2.length ≤ 1073741824) ∧
 (∀ v, tfind k l = some v → Q (.tup [.sl 1 (v.map encB), .v (.bool true)]) h) ∧ (tfind k l = none → Q (.tup [.v (.slice none 0 0), .v (.bool false)]) h)
theorem tfind_at {k : List UInt8} {l : List KV} {i : Nat} (hi : i < l.length) (hb : ∀ j (hj : j < i), (l[j]'(by omega)).1 ≠ k) (he : l[i].1 = k) : tfind k l = some l[i].2 := by
 unfold tfind
 have : l.find? (fun p => p.1 == k) = some l[i] := by
   rw [List.find?_eq_some_iff_getElem]
   exact ⟨by simpa using he, i, hi, rfl, fun j hj => by simpa using hb j hj⟩
 rw [this]; rfl
theorem tfind_no {k : List UInt8} {l : List KV} (hb : ∀ j (hj : j < l.length), l[j].1 ≠ k) : tfind k l = none := by
 unfold tfind
 rw [List.find?_eq_none.2 fun p hp => ?_]; rfl
 obtain ⟨j, hj, rfl⟩ := List.getElem_of_mem hp
 simpa using hb j hj
theorem does_tGet : Does Tryz.prog 167 tGetSpec := by
 refine does_of_awp good_nil Tryz.func167 rfl (by decide +kernel) (by decide +kernel) ?_
 rintro args h Q ⟨id, l, k, rfl, hh, hl, hvl, hq1, hq2⟩
 unfold tabObj at hh
 refine ⟨by simp [Tryz.f167], ?_⟩
 rw [awpFunc_some (by rfl)]
 simp -dsimp only [Vm.E, zA, zB, zC, zD, zE, zG, zH]
 refine awp_loop (fun m s h' => ∃ i : Nat, i + m = l.length ∧ h' = h ∧ (∀ j (hj : j < l.length), j < i → l[j].1 ≠ k) ∧ s = mk [(0, .ptr id 0), (1, .sl 1 (k.map encB)), (6, .v (.int .i64 i))])
   l.length _ (le_mk _ ?_) ⟨0, by omega, rfl, fun j _ hj => by omega, rfl⟩ ?_
 · simp only [Vm.D]
   simp -dsimp only [Vm.E, zA, zB, zC, zD, zE, zG, zH]
   exact ⟨.refl _, .refl _, .refl _⟩
 · rintro m s h' ⟨i, hi, rfl, hb, rfl⟩
   simp -dsimp only [Vm.E, zA, zB, zC, zD, zE, zG, zH, fo114_0, hh, of76, Tryz.underlying76]
   refine cond_intro (fun hcc => ?_) (fun hcc => ?_)
   · have hlt : i < l.length := by have := of_decide_eq_true hcc; omega
     have hw := hwN i (by omega)
     obtain ⟨p, hp⟩ : ∃ p, l[i] = p := ⟨_, rfl⟩
     have hvp : p.2.length ≤ 1073741824 := hvl p (hp ▸ zUb hlt)
     have hf1 : p.1 = k → tfind k l = some p.2 := fun e => by rw [← hp]; exact tfind_at hlt (fun j hj => hb j _ hj) (by rw [hp]; exact e)
     simp -dsimp only [Vm.E, zA, zB, zC, zD, zE, zG, zH]
     refine draw_cont [] (.take 0 (.take 1 (.take 2 (.take 4 (.take 9 (.take 10 (.alt 3 (.take 5 (.take 6 (.take 7 (.take 8 (.take 11 (.done)))))) .stop))))))) (fun s h2 => h2 = h' ∧ s 27 = .v (.bool (p.1 == k)) ∧ s 0 = .ptr id 0 ∧ s 1 = .sl 1 (k.map encB) ∧ s 6 = .v (.int .i64 i)) (by kernel_rfl) (by kernel_rfl) (by kernel_rfl) (by decide) ?_ ?_
     · simp -dsimp only [Vm.G, zA, zB, zC, zD, zE, zF, fo114_0, hh, of76, es76, as76, Tryz.underlying107, cs107]
       refine strOf_sl bt107 k rfl ?_
       simp -dsimp only [Vm.G, zA, zB, zC, zD, zE, zF, fo114_0, hh, of76, es76, as76, Tryz.underlying107, cs107, fo124_0, fo124_1, of107, AV.cells, Tryz.underlying76]
       refine idx_map kvAv l i hlt ?_
       simp only [hp, kvAv]
       simp -dsimp only [Vm.G, zA, zB, zC, zD, zE, zF, fo114_0, hh, of76, es76, as76, Tryz.underlying107, cs107, fo124_0, fo124_1, of107, AV.cells, Tryz.underlying76]
       refine strOf_sl bt107 p.1 rfl ?_
       simp -dsimp only [Vm.G, zA, zB, zC, zD, zE, zF, fo114_0, hh, of76, es76, as76, Tryz.underlying107, cs107, fo124_0, fo124_1, of107, AV.cells, Tryz.underlying76]
       simp -dsimp only [Vm.E, zA, zB, zC, zD, zE, zG, zH, str_eql, toList_mk]
     · rintro s h2 ⟨rfl, e27, e0, e1, e6⟩
       cases c1 : (p.1 == k)
       · rw [c1] at e27
         simp -dsimp only [Vm.E, zA, zB, zC, zD, zE, zG, zH, e27, e6, hw]
         refine kept_intro ⟨l.length - (i + 1), by omega, _, le_mk [(0, .ptr id 0), (1, .sl 1 (k.map encB)), (6, .v (.int .i64 (i + 1 : Nat)))] ?_, i + 1, by omega, rfl, fun j hj hj2 => ?_, rfl⟩
         · simp only [Vm.D]
           simp -dsimp only [Vm.E, zA, zB, zC, zD, zE, zG, zH, e0, e1]
           exact ⟨.refl _, .refl _, .refl _⟩
         · by_cases hji : j = i
           · subst hji; rw [hp]; simpa using c1
           · exact hb j hj (by omega)
       · rw [c1] at e27
         have hf := hq1 _ (hf1 (by simpa using c1))
         simp -dsimp only [Vm.E, zA, zB, zC, zD, zE, zG, zH, e27, e6, e0, e1, Vm.S, Nat.reduceLeDiff, fo114_0, hh, of76, es76, as76, Tryz.underlying107, cs107, fo124_0, fo124_1, of107, AV.cells, Tryz.underlying76]
         refine idx_map kvAv l i hlt ?_
         simp only [hp, kvAv]
         simp -dsimp only [Vm.E, zA, zB, zC, zD, zE, zG, zH, e27, e6, e0, e1, Vm.S, Nat.reduceLeDiff, fo114_0, hh, of76, es76, as76, Tryz.underlying107, cs107, fo124_0, fo124_1, of107, AV.cells, Tryz.underlying76]
         simp -dsimp only [Vm.E, zA, zB, zC, zD, zE, zG, zH, e27, e6, e0, e1, append_nil ei107]
         refine app_sl Tryz.underlying107 (fun c hc => by obtain ⟨y, -, rfl⟩ := zTa.1 hc; rfl) (by simp only [zJa, zPa]; omega) ?_
         simp -dsimp only [Vm.E, zA, zB, zC, zD, zE, zG, zH, e27, e6, e0, e1, Tryz.results167]
         exact hf
   · have hge : ¬ i < l.length := by have := of_decide_eq_false hcc; omega
     simp -dsimp only [Vm.E, zA, zB, zC, zD, zE, zG, zH, Tryz.results167]
     exact hq2 (tfind_no fun j hj => hb j hj (by omega))
theorem str_lss {t : TypeId} {a b : ByteArray} {KV : Value → Prop} : awpBin Tryz.prog .lss t (.v (.string a)) (.v (.string b)) KV = KV (.bool (Op.bytesLess a.toList b.toList)) := by simp [awpBin]
def lessAt (l : List KV) (i : Nat) (k : List UInt8) : Bool := (l[i]?.map fun p => decide (kLt p.1 k)).getD false
def sameAt (l : List KV) (i : Nat) (k : List UInt8) : Bool := (l[i]?.map fun p => p.1 == k).getD false
theorem lessAt_true {l : List KV} {i : Nat} {k : List UInt8} (h : lessAt l i k = true) : ∃ hi : i < l.length, kLt l[i].1 k := by
 unfold lessAt at h
 by_cases hi : i < l.length
 · rw [zSa hi] at h; exact ⟨hi, by simpa using h⟩
 · rw [zUa (by omega)] at h; cases h
theorem sameAt_true {l : List KV} {i : Nat} {k : List UInt8} (h : sameAt l i k = true) : ∃ hi : i < l.length, l[i].1 = k := by
 unfold sameAt at h
 by_cases hi : i < l.length
 · rw [zSa hi] at h; exact ⟨hi, by simpa using h⟩
 · rw [zUa (by omega)] at h; cases h
theorem tput_at {k v : List UInt8} {l : List KV} {i : Nat} (hi : i ≤ l.length) (hb : ∀ j (hj : j < l.length), j < i → kLt l[j].1 k) (h1 : lessAt l i k = false) (h2 : sameAt l i k = false) : tput k v l = l.take i ++ (k, v) :: l.drop i := by
 refine tput_ins k v l i hi (fun j hj => hb j _ hj) fun h => ?_
 unfold lessAt at h1; unfold sameAt at h2
 rw [zSa h] at h1 h2
 exact ⟨by simpa using h1, by simpa using h2⟩
def tPutSpec : Vm.Spec := fun args h Q => ∃ (i : Nat) (l : List KV) (k v : List UInt8), args = [.ptr i 0, .sl 1 (k.map encB), .sl 1 (v.map encB)] ∧ h[i]? = some (tabObj l) ∧ l.length ≤ 1073741824 ∧ k.length ≤ 1073741824 ∧ v.length ≤ 1073741824 ∧
 Q (.tup []) (h.set i (tabObj (tput k v l)))
theorem does_tPut : Does Tryz.prog 121 tPutSpec := by
 refine does_of_awp good_nil Tryz.func121 rfl (by decide +kernel) (by decide +kernel) ?_
 rintro args h Q ⟨id, l, k, v, rfl, hh, hl, hkl, hvl, hq⟩
 unfold tabObj at hh hq
 refine ⟨by simp [Tryz.f121], ?_⟩
 rw [awpFunc_some (by rfl)]
 simp -dsimp only [Vm.E, zA, zB, zC, zD, zE, zG, zH, append_nil ei107]
 refine app_sl Tryz.underlying107 (fun c hc => by obtain ⟨y, -, rfl⟩ := zTa.1 hc; rfl) (by simp only [zJa, zPa]; omega) ?_
 simp -dsimp only [Vm.E, zA, zB, zC, zD, zE, zG, zH, append_nil ei107]
 refine app_sl Tryz.underlying107 (fun c hc => by obtain ⟨y, -, rfl⟩ := zTa.1 hc; rfl) (by simp only [zJa, zPa]; omega) ?_
 simp -dsimp only [Vm.G, zA, zB, zC, zD, zE, zF, zIb, bd124, al124, sz124]
 refine awp_loop (fun m s h' => ∃ i : Nat, i + m = l.length ∧ h' = h ∧ (∀ j (hj : j < l.length), j < i → kLt l[j].1 k) ∧ s = mk [(0, .ptr id 0), (1, .sl 1 (k.map encB)), (6, .box [.sl 1 (k.map encB), .sl 1 (v.map encB)]), (7, .v (.int .i64 i))])
   l.length _ (le_mk _ ?_) ⟨0, by omega, rfl, fun j _ hj => by omega, rfl⟩ ?_
 · simp only [Vm.D]
   simp -dsimp only [Vm.E, zA, zB, zC, zD, zE, zG, zH]
   exact ⟨.refl _, .refl _, .refl _, .refl _⟩
 · rintro m s h' ⟨i, hi, rfl, hb, rfl⟩
   simp -dsimp only [Vm.E, zA, zB, zC, zD, zE, zG, zH]
   have hw : i < l.length → IntKind.i64.wrap ((i : Int) + 1) = ((i + 1 : Nat) : Int) := fun hlt => by rw [wrap_i64 (by omega) (by omega)]; simp
   refine draw_cont [] (.take 0 (.take 1 (.take 2 (.take 3 (.alt 4 (.take 5 (.take 6 (.take 7 (.take 8 (.take 9 (.take 10 (.take 12 (.take 17 (.alt 11 (.take 13 (.take 14 (.alt 15 (.alt 16 (.alt 18 (.take 19 (.take 20 (.done))) .stop) (.alt 18 (.alt 16 (.take 19 (.take 20 (.done))) .stop) (.stop))) (.alt 18 (.alt 15 (.alt 16 (.take 19 (.take 20 (.done))) .stop) .stop) (.stop))))) (.alt 18 (.alt 11 (.take 13 (.take 14 (.alt 15 (.alt 16 (.take 19 (.take 20 (.done))) .stop) .stop))) .stop) (.stop))))))))))) .stop))))) (fun s hx => hx = h' ∧ s 34 = .v (.bool (lessAt l i k)) ∧ s 0 = .ptr id 0 ∧ s 1 = .sl 1 (k.map encB) ∧ s 6 = .box [.sl 1 (k.map encB), .sl 1 (v.map encB)] ∧ s 7 = .v (.int .i64 i)) (by kernel_rfl) (by kernel_rfl) (by kernel_rfl) (by decide) ?_ ?_
   · by_cases hlt : i < l.length
     · have c1 : decide ((i : Int) < l.length) = true := decide_eq_true (by omega)
       obtain ⟨p, hp⟩ : ∃ p, l[i] = p := ⟨_, rfl⟩
       have hv : (lessAt l i k) = decide (kLt p.1 k) := by unfold lessAt; rw [zSa hlt, hp]; rfl
       simp only [hv]
       repeat' first
         | with_reducible exact True.intro
         | simp -dsimp only [Vm.G, zA, zB, zC, zD, zE, zF, fo114_0, hh, of76, es76, as76, Tryz.underlying107, cs107, fo124_0, fo124_1, of107, AV.cells, Tryz.underlying76, c1, str_eql, str_lss, toList_mk, bytesLess_cb]
         | refine strOf_sl bt107 k rfl ?_
         | refine strOf_sl bt107 p.1 rfl ?_
         | (refine idx_map kvAv l i hlt ?_; simp only [hp, kvAv])
         | refine tree_alt ?_ ?_
     · have c1 : decide ((i : Int) < l.length) = false := decide_eq_false (by omega)
       have hv : (lessAt l i k) = false := by unfold lessAt; rw [zUa (by omega)]; rfl
       simp only [hv]
       repeat' first
         | with_reducible exact True.intro
         | simp -dsimp only [Vm.G, zA, zB, zC, zD, zE, zF, fo114_0, hh, of76, es76, as76, Tryz.underlying107, cs107, fo124_0, fo124_1, of107, AV.cells, Tryz.underlying76, c1]
         | refine tree_alt ?_ ?_
   · rintro s h2 ⟨rfl, e34, e0, e1, e6, e7⟩
     cases hb2 : lessAt l i k
     · rw [hb2] at e34
       simp -dsimp only [Vm.E, zA, zB, zC, zD, zE, zG, zH, e34, e0, e1, e6, e7]
       refine draw_cont [] (.take 0 (.take 1 (.take 2 (.take 3 (.alt 4 (.take 5 (.take 6 (.take 7 (.take 8 (.take 9 (.take 10 (.take 12 (.take 17 (.alt 11 (.take 13 (.take 14 (.alt 15 (.alt 16 (.alt 18 (.take 19 (.take 20 (.done))) .stop) (.alt 18 (.alt 16 (.take 19 (.take 20 (.done))) .stop) (.stop))) (.alt 18 (.alt 15 (.alt 16 (.take 19 (.take 20 (.done))) .stop) .stop) (.stop))))) (.alt 18 (.alt 11 (.take 13 (.take 14 (.alt 15 (.alt 16 (.take 19 (.take 20 (.done))) .stop) .stop))) .stop) (.stop))))))))))) .stop))))) (fun s hx => hx = h2 ∧ s 57 = .v (.bool (sameAt l i k)) ∧ s 0 = .ptr id 0 ∧ s 1 = .sl 1 (k.map encB) ∧ s 6 = .box [.sl 1 (k.map encB), .sl 1 (v.map encB)] ∧ s 7 = .v (.int .i64 i)) (by kernel_rfl) (by kernel_rfl) (by kernel_rfl) (by decide) ?_ ?_
       · by_cases hlt : i < l.length
         · have c1 : decide ((i : Int) < l.length) = true := decide_eq_true (by omega)
           obtain ⟨p, hp⟩ : ∃ p, l[i] = p := ⟨_, rfl⟩
           have hv : (sameAt l i k) = (p.1 == k) := by unfold sameAt; rw [zSa hlt, hp]; rfl
           simp only [hv]
           repeat' first
             | with_reducible exact True.intro
             | simp -dsimp only [Vm.G, zA, zB, zC, zD, zE, zF, fo114_0, hh, of76, es76, as76, Tryz.underlying107, cs107, fo124_0, fo124_1, of107, AV.cells, Tryz.underlying76, c1, str_eql, str_lss, toList_mk, bytesLess_cb, e34, e0, e1, e6, e7]
             | refine strOf_sl bt107 k rfl ?_
             | refine strOf_sl bt107 p.1 rfl ?_
             | (refine idx_map kvAv l i hlt ?_; simp only [hp, kvAv])
             | refine tree_alt ?_ ?_
         · have c1 : decide ((i : Int) < l.length) = false := decide_eq_false (by omega)
           have hv : (sameAt l i k) = false := by unfold sameAt; rw [zUa (by omega)]; rfl
           simp only [hv]
           repeat' first
             | with_reducible exact True.intro
             | simp -dsimp only [Vm.G, zA, zB, zC, zD, zE, zF, fo114_0, hh, of76, es76, as76, Tryz.underlying107, cs107, fo124_0, fo124_1, of107, AV.cells, Tryz.underlying76, c1, e34, e0, e1, e6, e7]
             | refine tree_alt ?_ ?_
       · rintro s3 h3 ⟨rfl, e57, f0, f1, f6, f7⟩
         clear e34 e0 e1 e6 e7
         cases hb4 : sameAt l i k
         · rw [hb4] at e57
           simp -dsimp only [Vm.E, zA, zB, zC, zD, zE, zG, zH, e57, f0, f1, f6, f7]
           have hput := tput_at (k := k) (v := v) (by omega) hb hb2 hb4
           have hil : i ≤ l.length := by omega
           have e1 : (l.map kvAv).take (i : Int).toNat = (l.take i).map kvAv := by rw [zNb, List.map_take]
           have e2 : (l.map kvAv).drop (i : Int).toNat = (l.drop i).map kvAv := by rw [zNb, List.map_drop]
           have hu : ∀ (l : List KV), ∀ c ∈ l.map kvAv, c.cells.length = 2 := fun l c hc => by obtain ⟨y, -, rfl⟩ := zTa.1 hc; rfl
           have hfin : (l.take i).map kvAv ++ [AV.agg [.sl 1 (k.map encB), .sl 1 (v.map encB)]] ++ (l.drop i).map kvAv = (tput k v l).map kvAv := by rw [hput]; simp [kvAv]
           refine draw_cont [6] (.take 0 (.take 1 (.take 2 (.take 3 (.take 5 (.take 8 (.take 11 (.take 12 (.take 13 (.take 15 (.alt 4 (.take 6 (.alt 7 (.alt 9 (.alt 10 (.alt 14 (.take 16 (.alt 17 (.take 18 (.take 19 (.alt 20 (.done) .stop))) .stop)) .stop) (.alt 14 (.take 16 (.alt 10 (.alt 17 (.take 18 (.take 19 (.alt 20 (.done) .stop))) .stop) .stop)) (.stop))) (.alt 14 (.take 16 (.alt 9 (.alt 10 (.alt 17 (.take 18 (.take 19 (.alt 20 (.done) .stop))) .stop) .stop) .stop)) (.stop))) (.alt 9 (.alt 7 (.alt 10 (.alt 14 (.take 16 (.alt 17 (.take 18 (.take 19 (.alt 20 (.done) .stop))) .stop)) .stop) (.alt 14 (.take 16 (.alt 10 (.alt 17 (.take 18 (.take 19 (.alt 20 (.done) .stop))) .stop) .stop)) (.stop))) (.alt 14 (.take 16 (.alt 7 (.alt 10 (.alt 17 (.take 18 (.take 19 (.alt 20 (.done) .stop))) .stop) .stop) .stop)) (.stop))) (.alt 14 (.take 16 (.alt 7 (.alt 9 (.alt 10 (.alt 17 (.take 18 (.take 19 (.alt 20 (.done) .stop))) .stop) .stop) .stop) (.alt 9 (.alt 7 (.alt 10 (.alt 17 (.take 18 (.take 19 (.alt 20 (.done) .stop))) .stop) .stop) .stop) (.stop)))) (.stop))))) (.alt 9 (.alt 4 (.take 6 (.alt 7 (.alt 10 (.alt 14 (.take 16 (.alt 17 (.take 18 (.take 19 (.alt 20 (.done) .stop))) .stop)) .stop) (.alt 14 (.take 16 (.alt 10 (.alt 17 (.take 18 (.take 19 (.alt 20 (.done) .stop))) .stop) .stop)) (.stop))) (.alt 14 (.take 16 (.alt 7 (.alt 10 (.alt 17 (.take 18 (.take 19 (.alt 20 (.done) .stop))) .stop) .stop) .stop)) (.stop)))) (.alt 14 (.take 16 (.alt 4 (.take 6 (.alt 7 (.alt 10 (.alt 17 (.take 18 (.take 19 (.alt 20 (.done) .stop))) .stop) .stop) .stop)) .stop)) (.stop))) (.alt 14 (.take 16 (.alt 4 (.take 6 (.alt 7 (.alt 9 (.alt 10 (.alt 17 (.take 18 (.take 19 (.alt 20 (.done) .stop))) .stop) .stop) .stop) (.alt 9 (.alt 7 (.alt 10 (.alt 17 (.take 18 (.take 19 (.alt 20 (.done) .stop))) .stop) .stop) .stop) (.stop)))) (.alt 9 (.alt 4 (.take 6 (.alt 7 (.alt 10 (.alt 17 (.take 18 (.take 19 (.alt 20 (.done) .stop))) .stop) .stop) .stop)) .stop) (.stop)))) (.stop)))))))))))))) (fun s hx => hx = h3.set id (tabObj (tput k v l))) (by kernel_rfl) (by kernel_rfl) (by kernel_rfl) (by decide) ?_ ?_
           · clear hq hb hw
             repeat' first
               | with_reducible exact True.intro
               | simp -dsimp only [Vm.G, zA, zB, zC, zD, zE, zF, fo114_0, hh, of76, es76, as76, Tryz.underlying107, cs107, fo124_0, fo124_1, of107, AV.cells, Tryz.underlying76, f0, f1, f6, f7, e1, e2, zIb, of124, append_nil ei76, append_own ei76, hfin, tabObj, sz76]
               | refine tree_alt ?_ ?_
               | refine slice_h es76 (by omega) (by rw [zJa]; omega) ?_
               | refine slice_l es76 (by omega) (by rw [zJa]; omega) ?_
               | refine bs_intro zr124 (by decide) (by decide) rfl rfl (by simp [solid, AV.cells]) ?_
               | refine app_sl Tryz.underlying76 (hu _) (by simp only [zJa, zPa, zOb, zIa, zTb, List.length_drop]; omega) ?_
               | refine app_sl Tryz.underlying76 (by simp [AV.cells]) (by simp only [zJa, zPa, zOb, zIa, zTb, List.length_drop]; omega) ?_
           · rintro s4 h4 rfl
             simp -dsimp only [Vm.E, zA, zB, zC, zD, zE, zG, zH, Tryz.results121]
             exact hq
         · rw [hb4] at e57
           obtain ⟨hlt, heq⟩ := sameAt_true hb4
           have hset := tput_set k v l i hlt (fun j hj => hb j _ hj) heq
           simp -dsimp only [Vm.G, zA, zB, zC, zD, zE, zF, fo114_0, hh, of76, es76, as76, Tryz.underlying107, cs107, fo124_0, fo124_1, of107, AV.cells, Tryz.underlying76, e57, f0, f1, f6, f7, append_nil ei76]
           refine app_sl Tryz.underlying76 (fun c hc => by obtain ⟨y, -, rfl⟩ := zTa.1 hc; rfl) (by simp only [zJa, zPa]; omega) ?_
           simp -dsimp only [Vm.G, zA, zB, zC, zD, zE, zF, fo114_0, hh, of76, es76, as76, Tryz.underlying107, cs107, fo124_0, fo124_1, of107, AV.cells, Tryz.underlying76, e57, f0, f1, f6, f7, zIb, of124]
           refine idxO_intro (by omega) (by simp; omega) ?_
           simp -dsimp only [Vm.G, zA, zB, zC, zD, zE, zF, fo114_0, hh, of76, es76, as76, Tryz.underlying107, cs107, fo124_0, fo124_1, of107, AV.cells, Tryz.underlying76, e57, f0, f1, f6, f7, of124, sz124, zNb]
           have hre : (l.map kvAv).set i (.agg [.sl 1 (k.map encB), .sl 1 (v.map encB)]) = (tput k v l).map kvAv := by rw [hset, List.map_set]; rfl
           refine store_elt 124 (l.map kvAv) (by simp -dsimp only [Vm.E, zA, zB, zC, zD, zE, zG, zH]) (y := kvAv l[i]) (by rw [List.getElem?_map, zSa hlt]; rfl) rfl rfl (by omega) rfl ?_
           simp only [kvAv, AV.cells, putCells, reCell, List.take_zero, zIb, zIa, zPa, Nat.zero_add, Nat.reduceAdd, List.drop_succ_cons, List.drop_zero, zQa, List.drop_nil]
           simp -dsimp only [Vm.G, zA, zB, zC, zD, zE, zF, fo114_0, hh, of76, es76, as76, AV.cells, Tryz.underlying76, f0, f1, f6, f7, hre, sz76, Tryz.results121]
           exact hq
     · rw [hb2] at e34
       obtain ⟨hlt, hk⟩ := lessAt_true hb2
       simp -dsimp only [Vm.E, zA, zB, zC, zD, zE, zG, zH, e34, e0, e1, e6, e7]
       refine kept_intro ⟨l.length - (i + 1), by omega, _, le_mk [(0, .ptr id 0), (1, .sl 1 (k.map encB)), (6, .box [.sl 1 (k.map encB), .sl 1 (v.map encB)]), (7, .v (.int .i64 (i + 1 : Nat)))] ?_, i + 1, by omega, rfl, fun j hj hj2 => ?_, rfl⟩
       · simp only [Vm.D]
         simp -dsimp only [Vm.E, zA, zB, zC, zD, zE, zG, zH, e0, e1, e6, e7, hw hlt]
         exact ⟨.refl _, .refl _, .refl _, .refl _⟩
       · by_cases hji : j = i
         · subst hji; exact hk
         · exact hb j hj (by omega)
end Go.Proofs.Lx
namespace Go.Proofs.Lx
open Go.Vm
attribute [local irreducible] awpArr awpBin awpMake awpAppend awpCvX awpStrOf awpBinX awpSlice awpBS awpStore awpAlloc awpCopy awpIndex awpDraw awpIdxX awpFa awpField awpLookup awpUpdate awpDelete awpClear awpRange awpNext awpEntry awpBuild awpClearS awpIdxL
theorem does_rPack : Does Tryz.prog 115 packSpec := by
 refine dA (good_cons does_refPut good_nil) Tryz.func115 rfl (by decide +kernel) ?_
 rintro args h Q ⟨l, hl, hn, rfl, hq⟩
 refine ⟨by simp [Tryz.f115], ?_⟩
 simp -dsimp only [Vm.E, zA, zB, zC, zD, zE, zG, zH]
 refine awp_loop (fun m s h' => ∃ i : Nat, i + m = (l.take 15).length ∧ h' = h ∧ s = mk [(0, .sl 1 (l.map encI)), (3, .own true 5 1 ((packs 8 (l.take i)).map encB)), (4, .v (.int .i64 i))])
   (l.take 15).length _ (le_mk _ ?_) ⟨0, by omega, rfl, rfl⟩ ?_
 · simp only [Vm.D]
   simp -dsimp only [Vm.E, zA, zB, zC, zD, zE, zG, zH]
   exact ⟨.refl _, .nil _ _ _ (by decide), .refl _⟩
 · rintro m s h' ⟨i, hi, rfl, rfl⟩
   have hlen : (l.take 15).length = min 15 l.length := zTb ..
   simp -dsimp only [Vm.E, zA, zB, zC, zD, zE, zG, zH, Tryz.underlying162]
   by_cases a1 : i < l.length
   · have c1 : decide ((i : Int) < l.length) = true := decide_eq_true (by omega)
     simp -dsimp only [Vm.E, zA, zB, zC, zD, zE, zG, zH, c1]
     by_cases a2 : i < 15
     · have c2 : decide ((i : Int) < 15) = true := decide_eq_true (by omega)
       simp -dsimp only [Vm.E, zA, zB, zC, zD, zE, zG, zH, c2, es162, as162]
       refine idx_ints l i a1 ?_
       simp -dsimp only [Vm.E, zA, zB, zC, zD, zE, zG, zH, of3]
       have hb := packs_length 8 (l.take i)
       have hti : (l.take i).length ≤ i := by rw [zTb]; omega
       have hr := hn l[i] (zUb a1)
       have hw := hwN i (by omega)
       refine call_one (S := putSpec) rfl _ GaL.rfl ⟨packs 8 (l.take i), l[i], 8, by omega, hr.1, hr.2, rfl, ?_⟩
       simp only [putOf8, ← packs_take 8 l i a1]
       simp -dsimp only [Vm.E, zA, zB, zC, zD, zE, zG, zH]
       refine kept_intro ⟨(l.take 15).length - (i + 1), by omega, _, le_mk [(0, .sl 1 (l.map encI)), (3, .own true 5 1 ((packs 8 (l.take (i + 1))).map encB)), (4, .v (.int .i64 (i + 1 : Nat)))] ?_, i + 1, by omega, rfl, rfl⟩
       simp only [Vm.D]
       simp -dsimp only [Vm.E, zA, zB, zC, zD, zE, zG, zH, hw]
       exact ⟨.refl _, .refl _, .refl _⟩
     · have c2 : decide ((i : Int) < 15) = false := decide_eq_false (by omega)
       simp -dsimp only [Vm.E, zA, zB, zC, zD, zE, zG, zH, c2, Tryz.results115]
       have : i = 15 := by omega
       subst this
       exact hq
   · have c1 : decide ((i : Int) < l.length) = false := decide_eq_false (by omega)
     simp -dsimp only [Vm.E, zA, zB, zC, zD, zE, zG, zH, c1, Tryz.results115]
     unfold packOf at hq
     rw [zXa (by omega)] at hq
     rw [zXa (by omega)]
     exact hq
theorem does_rKey : Does Tryz.prog 104 keySpec := by
 refine dA (good_cons does_refPut good_nil) Tryz.func104 rfl (by decide +kernel) ?_
 rintro args h Q ⟨tag, l, hl, rfl, hq⟩
 refine ⟨by simp [Tryz.f104], ?_⟩
 simp -dsimp only [Vm.E, zA, zB, zC, zD, zE, zG, zH, es107]
 refine bs_intro zr5 (by decide) (by decide) rfl rfl (by simp [solid, AV.cells]) ?_
 simp -dsimp only [Vm.E, zA, zB, zC, zD, zE, zG, zH]
 refine awp_loop (fun m s h' => ∃ i : Nat, i + m = (l.take 7).length ∧ h' = h ∧ s = mk [(1, .sl 1 (l.map encI)), (5, .own true 5 1 ((tag :: packs 4 ((l.map clampK).take i)).map encB)), (6, .v (.int .i64 i))])
   (l.take 7).length _ (le_mk _ ?_) ⟨0, by omega, rfl, rfl⟩ ?_
 · simp only [Vm.D]
   simp -dsimp only [Vm.E, zA, zB, zC, zD, zE, zG, zH]
   exact ⟨.refl _, .refl _, .refl _⟩
 · rintro m s h' ⟨i, hi, rfl, rfl⟩
   have hlen : (l.take 7).length = min 7 l.length := zTb ..
   simp -dsimp only [Vm.E, zA, zB, zC, zD, zE, zG, zH, Tryz.underlying162]
   by_cases a1 : i < l.length
   · have c1 : decide ((i : Int) < l.length) = true := decide_eq_true (by omega)
     simp -dsimp only [Vm.E, zA, zB, zC, zD, zE, zG, zH, c1]
     by_cases a2 : i < 7
     · have c2 : decide ((i : Int) < 7) = true := decide_eq_true (by omega)
       simp -dsimp only [Vm.E, zA, zB, zC, zD, zE, zG, zH, c2, es162, as162]
       refine idx_ints l i a1 ?_
       simp -dsimp only [Vm.E, zA, zB, zC, zD, zE, zG, zH, of3]
       have hlt' : i < (l.map clampK).length := by simpa using a1
       have hb := packs_length 4 ((l.map clampK).take i)
       have hti : ((l.map clampK).take i).length ≤ i := by rw [zTb]; omega
       have hr := clampK_range l[i]
       have hget : (l.map clampK)[i] = clampK l[i] := by simp
       have hw := hwN i (by omega)
       refine call_one (S := putSpec) rfl _ GaL.rfl ⟨tag :: packs 4 ((l.map clampK).take i), clampK l[i], 4, by simp only [zIa]; omega, by omega, by omega, rfl, ?_⟩
       have hput : putOf (tag :: packs 4 ((l.map clampK).take i)) (clampK l[i]) 4 = tag :: packs 4 ((l.map clampK).take (i + 1)) := by
         rw [putOf4 _ _ hr.1 hr.2, List.cons_append, ← hget, ← packs_take 4 (l.map clampK) i hlt']
       simp only [hput]
       simp -dsimp only [Vm.E, zA, zB, zC, zD, zE, zG, zH]
       refine kept_intro ⟨(l.take 7).length - (i + 1), by omega, _, le_mk [(1, .sl 1 (l.map encI)), (5, .own true 5 1 ((tag :: packs 4 ((l.map clampK).take (i + 1))).map encB)), (6, .v (.int .i64 (i + 1 : Nat)))] ?_, i + 1, by omega, rfl, rfl⟩
       simp only [Vm.D]
       simp -dsimp only [Vm.E, zA, zB, zC, zD, zE, zG, zH, hw]
       exact ⟨.refl _, .refl _, .refl _⟩
     · have c2 : decide ((i : Int) < 7) = false := decide_eq_false (by omega)
       simp -dsimp only [Vm.E, zA, zB, zC, zD, zE, zG, zH, c2, Tryz.results104]
       have : i = 7 := by omega
       subst this
       unfold keyOf at hq
       rw [List.map_take] at hq
       exact hq
   · have c1 : decide ((i : Int) < l.length) = false := decide_eq_false (by omega)
     simp -dsimp only [Vm.E, zA, zB, zC, zD, zE, zG, zH, c1, Tryz.results104]
     unfold keyOf at hq
     rw [List.map_take, zXa (by simp; omega)] at hq
     rw [zXa (l := l.map clampK) (by simp; omega)]
     exact hq
theorem does_rUnpack : Does Tryz.prog 172 unpackSpec := by
 refine dA (good_cons does_refGet good_nil) Tryz.func172 rfl (by decide +kernel) ?_
 rintro args h Q ⟨b, many, hl, hm, rfl, hq⟩
 refine ⟨by simp [Tryz.f172], ?_⟩
 unfold unpackRes at hq
 simp -dsimp only [Vm.E, zA, zB, zC, zD, zE, zG, zH]
 cases h0 : decide (many < 0)
 · have h0' : ¬ many < 0 := of_decide_eq_false h0
   simp -dsimp only [Vm.E, zA, zB, zC, zD, zE, zG, zH]
   cases h1 : decide (many > 15)
   · have h1' : ¬ 15 < many := of_decide_eq_false h1
     rw [if_neg (by omega)] at hq
     have hw8 : IntKind.i64.wrap (8 * many) = 8 * many := wrap_i64 (by omega) (by omega)
     simp -dsimp only [Vm.E, zA, zB, zC, zD, zE, zG, zH, Tryz.underlying107, hw8]
     cases h2 : ((b.length : Int) != 8 * many)
     · have h2' : (b.length : Int) = 8 * many := by simpa using h2
       rw [if_neg (by omega)] at hq
       obtain ⟨k, rfl⟩ : ∃ k : Nat, many = k := ⟨many.toNat, by omega⟩
       rw [zNb] at hq
       have hk : k ≤ 15 := by omega
       simp -dsimp only [Vm.E, zA, zB, zC, zD, zE, zG, zH]
       refine awp_loop (fun m s h' => ∃ i : Nat, i + m = k ∧ h' = h ∧ s = mk [(0, .sl 1 (b.map encB)), (1, .v (.int .i64 k)), (6, .own true 3 1 ((numsOf b i).map encI)), (7, .v (.int .i64 i))])
         k _ (le_mk _ ?_) ⟨0, by omega, rfl, rfl⟩ ?_
       · simp only [Vm.D]
         simp -dsimp only [Vm.E, zA, zB, zC, zD, zE, zG, zH]
         exact ⟨.refl _, .refl _, .nil _ _ _ (by decide), .refl _⟩
       · rintro m s h' ⟨i, hi, rfl, rfl⟩
         simp -dsimp only [Vm.E, zA, zB, zC, zD, zE, zG, zH]
         refine cond_intro (fun hc => ?_) (fun hc => ?_)
         · have hlt : i < k := by have := of_decide_eq_true hc; omega
           have hwi : IntKind.i64.wrap (8 * (i : Int)) = ((8 * i : Nat) : Int) := by rw [wrap_i64 (by omega) (by omega)]; simp
           have hw := hwN i (by omega)
           simp -dsimp only [Vm.E, zA, zB, zC, zD, zE, zG, zH, hwi]
           refine call_one (S := getSpec) rfl _ GaL.rfl ⟨b, ((8 * i : Nat) : Int), 8, by omega, by omega, rfl, ?_⟩
           simp only [getRes8 b i (by omega)]
           simp -dsimp only [Vm.E, zA, zB, zC, zD, zE, zG, zH, es162]
           refine bs_intro zr3 (by decide) (by decide) rfl rfl (by simp [solid, AV.cells]) ?_
           simp -dsimp only [Vm.E, zA, zB, zC, zD, zE, zG, zH, append_own ei162]
           refine app_sl Tryz.underlying162 (by simp [AV.cells]) (by simp [numsOf]; omega) ?_
           simp -dsimp only [Vm.E, zA, zB, zC, zD, zE, zG, zH]
           have e3 : (numsOf b i).map encI ++ [AV.v (.int .i64 (num8 b i))] = (numsOf b (i + 1)).map encI := by simp [numsOf, List.range_succ, encI]
           refine kept_intro ⟨k - (i + 1), by omega, _, le_mk [(0, .sl 1 (b.map encB)), (1, .v (.int .i64 k)), (6, .own true 3 1 ((numsOf b (i + 1)).map encI)), (7, .v (.int .i64 (i + 1 : Nat)))] ?_, i + 1, by omega, rfl, rfl⟩
           simp only [Vm.D]
           simp -dsimp only [Vm.E, zA, zB, zC, zD, zE, zG, zH, hw, e3]
           exact ⟨.refl _, .refl _, .refl _, .refl _⟩
         · have hge : ¬ i < k := by have := of_decide_eq_false hc; omega
           simp -dsimp only [Vm.E, zA, zB, zC, zD, zE, zG, zH, Tryz.results172]
           obtain rfl : i = k := by omega
           exact hq
     · have h2' : ¬ (b.length : Int) = 8 * many := by simpa using h2
       rw [if_pos h2'] at hq
       simp -dsimp only [Vm.E, zA, zB, zC, zD, zE, zG, zH, Tryz.results172]
       exact hq
   · have h1' : 15 < many := of_decide_eq_true h1
     rw [if_pos (.inr h1')] at hq
     simp -dsimp only [Vm.E, zA, zB, zC, zD, zE, zG, zH, Tryz.results172]
     exact hq
 · have h0' : many < 0 := of_decide_eq_true h0
   rw [if_pos (.inl h0')] at hq
   simp -dsimp only [Vm.E, zA, zB, zC, zD, zE, zG, zH, Tryz.results172]
   exact hq
def GaO (x y : AObj) : Prop := x = y ∨ ∃ a b, x = .cells a ∧ y = .cells b ∧ GaL a b
def GaH (h h' : Heap) : Prop := h.length = h'.length ∧ ∀ (i : Nat) (o' : AObj), h'[i]? = some o' → ∃ o : AObj, h[i]? = some o ∧ GaO o o'
theorem GaH.rep {w : World} {g : Gh} {h h' : Heap} (hg : GaH h h') (hh : HeapRep w g h) : HeapRep w g h' := by
 refine ⟨hg.1 ▸ hh.n, hh.lt, hh.inj, fun i o' ho' => ?_⟩
 obtain ⟨o, ho, hgo⟩ := hg.2 i o' ho'
 have hr := hh.obj i o ho
 rcases hgo with rfl | ⟨a, b, rfl, rfl, hab⟩
 · exact hr
 · obtain ⟨vs, e, h1, h2, h3, h4, h5⟩ := hr
   obtain ⟨q1, q2⟩ := gaL_rep (w := w) (g := g) hab
   exact ⟨vs, e, h1, q1 ▸ h2, h3, fun j hj => h4 j (by omega), q2 (fun j => vs.getD j undef) h5⟩
def WeakH (S : Vm.Spec) : Vm.Spec := fun args h Q => ∃ h', GaH h h' ∧ S args h' fun r h2 => ∃ h3, GaH h2 h3 ∧ Q r h3
theorem does_weakH {P : Program} {f : FuncId} {S : Vm.Spec} (hd : Does P f S) : Does P f (WeakH S) := by
 refine ⟨hd.1, fun args h Q ⟨h', hg, hS⟩ w g vs hvs hrep hh hf hlaid => (hd.2 args h' _ hS w g vs hvs hrep (hg.rep hh) hf hlaid).mono ?_⟩
 rintro e w' ⟨r, h2, g', v, ⟨h3, hg3, hq⟩, he, hres, hhr, hrest⟩
 exact ⟨r, h3, g', v, hq, he, hres, hg3.rep hhr, hrest⟩
theorem GaH.refl (h : Heap) : GaH h h := ⟨rfl, fun i o ho => ⟨o, ho, .inl rfl⟩⟩
theorem GaH.append {h : Heap} {a b : List AObj} (hab : a.length = b.length) (hi : ∀ (i : Nat) (o' : AObj), b[i]? = some o' → ∃ o, a[i]? = some o ∧ GaO o o') : GaH (h ++ a) (h ++ b) := by
 refine ⟨by simp [hab], fun i o' ho' => ?_⟩
 rcases zQb i h.length with hl | hl
 · rw [List.getElem?_append_left hl] at ho' ⊢
   exact ⟨o', ho', .inl rfl⟩
 · rw [zVa hl] at ho' ⊢
   exact hi _ _ ho'
structure RId where
 iv : Nat
 iw : Nat
 inn : Nat
 it : Nat
def isRef (h : Heap) (R : RId) (f : Fun) : Prop :=
 ∃ lw ln lt : List KV, h[R.iv]? = some (.cells [.ptr R.iw 0, .ptr R.inn 0, .ptr R.it 0]) ∧ h[R.iw]? = some (tabObj lw) ∧ h[R.inn]? = some (tabObj ln) ∧ h[R.it]? = some (tabObj lt) ∧
   (R.iv ≠ R.inn ∧ R.iv ≠ R.it ∧ R.inn ≠ R.it ∧ R.iw ≠ R.inn ∧ R.iw ≠ R.it) ∧ TabIs f ln ∧ (ln.length ≤ f.n ∧ lt.length ≤ f.n) ∧ ∀ p ∈ ln, p.1.length ≤ 32 ∧ p.2.length ≤ 120
def rFoot (R : RId) : List Nat := [R.inn, R.it]
theorem isRef.len {h : Heap} {R : RId} {f : Fun} (hR : isRef h R f) {k l : List UInt8} (hf : f k = some l) : k.length ≤ 32 ∧ l.length ≤ 120 := by
 obtain ⟨lw, ln, lt, -, -, -, -, -, h6, -, h8⟩ := hR
 exact h8 (k, l) ((h6.2 k l).2 hf)
def rNewH (h : Heap) : Heap := h ++ [tabObj [], tabObj [], tabObj [], .cells [.ptr h.length 0, .ptr (h.length + 1) 0, .ptr (h.length + 2) 0]]
def rNewId (h : Heap) : RId := ⟨h.length + 3, h.length, h.length + 1, h.length + 2⟩
def rNewSpec : Vm.Spec := fun args h Q => args = [.sl 2 []] ∧ Q (.ptr (rNewId h).iv 0) (rNewH h)
theorem does_rNew0 : Does Tryz.prog 23 (fun args h Q => args = [.sl 2 []] ∧ Q (.ptr (h.length + 3) 0) (h ++ [tabObj [], tabObj [], .cells [.v (.slice none 0 0)], .cells [.ptr h.length 0, .ptr (h.length + 1) 0, .ptr (h.length + 2) 0]])) := by
 refine dA good_nil Tryz.func23 rfl (by decide +kernel) ?_
 rintro args h Q ⟨rfl, hq⟩
 refine ⟨by simp [Tryz.f23], ?_⟩
 unfold tabObj at hq
 simp -dsimp only [Vm.G, zA, zB, zC, zD, zE, zF, bd114, bd116, Tryz.results23]
 simpa using hq
theorem does_rNew : Does Tryz.prog 23 rNewSpec := by
 refine (does_weakH does_rNew0).imp ?_
 rintro args h Q ⟨rfl, hq⟩
 refine ⟨h, .refl h, rfl, rNewH h, ?_, hq⟩
 refine GaH.append rfl fun i o' ho' => ?_
 match i, ho' with
 | 0, ho' => exact ⟨o', ho', .inl rfl⟩
 | 1, ho' => exact ⟨o', ho', .inl rfl⟩
 | 2, ho' => exact ⟨_, rfl, .inr ⟨_, _, rfl, (Option.some.inj ho').symm, .cons (.nil 2) .nil⟩⟩
 | 3, ho' => exact ⟨o', ho', .inl rfl⟩
 | i + 4, ho' => simp at ho'
theorem isRef_new (h : Heap) : isRef (rNewH h) (rNewId h) noF := by
 unfold rNewH rNewId
 refine ⟨[], [], [], ?_, ?_, ?_, ?_, ⟨by simp, by simp, by simp, by simp, by simp⟩, TabIs.new, ⟨by simp, by simp⟩, by simp⟩
 · rw [zVa (by simp)]; simp
 · rw [zVa (by simp)]; simp
 · rw [zVa (by simp)]; simp
 · rw [zVa (by simp)]; simp
def rGetSpec : Vm.Spec := fun args h Q => ∃ (R : RId) (f : Fun) (k : List UInt8), args = [.ptr R.iv 0, .sl 1 (k.map encB)] ∧ isRef h R f ∧ f.n ≤ 536870912 ∧
 (∀ l, f k = some l → Q (.tup [.sl 1 (l.map encB), .v (.bool true)]) h) ∧ (f k = none → Q (.tup [.sl 1 [], .v (.bool false)]) h)
theorem does_rGet : Does Tryz.prog 105 rGetSpec := by
 refine Does.imp (S := Weak fun args h Q => ∃ (R : RId) (f : Fun) (k : List UInt8), args = [.ptr R.iv 0, .sl 1 (k.map encB)] ∧ isRef h R f ∧ f.n ≤ 536870912 ∧
   (∀ l, f k = some l → Q (.tup [.sl 1 (l.map encB), .v (.bool true)]) h) ∧ (f k = none → Q (.tup [.v (.slice none 0 0), .v (.bool false)]) h)) (Does.weak ?_) ?_
 · refine dA (good_cons does_tGet good_nil) Tryz.func105 rfl (by decide +kernel) ?_
   rintro args h Q ⟨R, f, k, rfl, hR, hn, hq1, hq2⟩
   refine ⟨by simp [Tryz.f105], ?_⟩
   obtain ⟨lw, ln, lt, h1, h2, h3, h4, h5, h6, h7, h8⟩ := hR
   simp -dsimp only [Vm.G, zA, zB, zC, zD, zE, zF, fo116_1, h1, of112]
   refine call_one (S := tGetSpec) rfl _ GaL.rfl ⟨R.inn, ln, k, rfl, h3, by omega, fun p hp => by have := (h8 p hp).2; omega, fun v hv => ?_, fun hv => ?_⟩
   · rw [h6.find] at hv
     simp -dsimp only [Vm.E, zA, zB, zC, zD, zE, zG, zH, Tryz.results105]
     exact hq1 v hv
   · rw [h6.find] at hv
     simp -dsimp only [Vm.E, zA, zB, zC, zD, zE, zG, zH, Tryz.results105]
     exact hq2 hv
 · rintro args h Q ⟨R, f, k, rfl, hR, hn, hq1, hq2⟩
   exact ⟨R, f, k, rfl, hR, hn, fun l hf => ⟨_, .refl _, hq1 l hf⟩, fun hf => ⟨_, .tup (.cons (.nil 1) GaL.rfl), hq2 hf⟩⟩
def rPutSpec : Vm.Spec := fun args h Q => ∃ (R : RId) (f : Fun) (k v : List UInt8), args = [.ptr R.iv 0, .sl 1 (k.map encB), .sl 1 (v.map encB)] ∧ isRef h R f ∧ f.n ≤ 536870912 ∧
 (rightKV k v = true → ∀ h', isRef h' R (upd f k (some v)) → Same h h' (rFoot R) → Q (.v (.int .i64 0)) h') ∧ (rightKV k v = false → Q (.v (.int .i64 1)) h)
theorem does_rPut : Does Tryz.prog 66 rPutSpec := by
 refine dA (good_cons does_rRight (good_cons does_tPut good_nil)) Tryz.func66 rfl (by decide +kernel) ?_
 rintro args h Q ⟨R, f, k, v, rfl, hR, hn, hq1, hq2⟩
 refine ⟨by simp [Tryz.f66], ?_⟩
 obtain ⟨lw, ln, lt, h1, h2, h3, h4, h5, h6, h7, h8⟩ := hR
 simp -dsimp only [Vm.G, zA, zB, zC, zD, zE, zF]
 refine call_one (S := rRightSpec) rfl _ GaL.rfl ⟨k, v, rfl, ?_⟩
 cases hr : rightKV k v
 · simp -dsimp only [Vm.E, zA, zB, zC, zD, zE, zG, zH, Tryz.results66]
   exact hq2 hr
 · have hrk : k.length ≤ 32 ∧ v.length ≤ 120 := by unfold rightKV at hr; simp at hr; omega
   simp -dsimp only [Vm.G, zA, zB, zC, zD, zE, zF, fo116_2, h1, of112]
   refine call_one (S := tPutSpec) rfl _ (.cons (.refl _) (.cons (.refl _) (.cons (.nil 1) .nil))) ⟨R.it, lt, k, [], rfl, h4, by omega, by omega, by simp, ?_⟩
   have hi : ∀ {i : Nat} {o : AObj} {h : Heap}, h[i]? = some o → i < h.length := fun {i o h} hx => by
     rcases zQb i h.length with h' | h'
     · exact h'
     · rw [zUa h'] at hx; cases hx
   have g1 : (h.set R.it (tabObj (tput k [] lt)))[R.iv]? = some (.cells [.ptr R.iw 0, .ptr R.inn 0, .ptr R.it 0]) := by rw [zWa (by exact fun e => h5.2.1 e.symm)]; exact h1
   have g3 : (h.set R.it (tabObj (tput k [] lt)))[R.inn]? = some (tabObj ln) := by rw [zWa (by exact fun e => h5.2.2.1 e.symm)]; exact h3
   have g2 : (h.set R.it (tabObj (tput k [] lt)))[R.iw]? = some (tabObj lw) := by rw [zWa (by exact fun e => h5.2.2.2.2 e.symm)]; exact h2
   have g4 : (h.set R.it (tabObj (tput k [] lt)))[R.it]? = some (tabObj (tput k [] lt)) := List.getElem?_set_self (hi h4)
   have gs : Same h (h.set R.it (tabObj (tput k [] lt))) (rFoot R) := ⟨by simp, fun i hl hi => zWa (by simp [rFoot] at hi; exact fun e => hi.2 e.symm)⟩
   generalize h.set R.it (tabObj (tput k [] lt)) = h2' at g1 g2 g3 g4 gs ⊢
   simp -dsimp only [Vm.G, zA, zB, zC, zD, zE, zF, fo116_1, g1, of112]
   refine call_one (S := tPutSpec) rfl _ GaL.rfl ⟨R.inn, ln, k, v, rfl, g3, by omega, by omega, by omega, ?_⟩
   simp -dsimp only [Vm.E, zA, zB, zC, zD, zE, zG, zH, Tryz.results66]
   refine hq1 hr _ ⟨lw, tput k v ln, tput k [] lt, ?_, ?_, ?_, ?_, h5, h6.put k v, ⟨?_, ?_⟩, fun p hp => ?_⟩ ?_
   · rw [zWa (by exact fun e => h5.1 e.symm)]; exact g1
   · rw [zWa (by exact fun e => h5.2.2.2.1 e.symm)]; exact g2
   · exact List.getElem?_set_self (hi g3)
   · rw [zWa h5.2.2.1]; exact g4
   · have := tput_length k v ln; show _ ≤ f.n + 1; omega
   · have := tput_length k [] lt; show _ ≤ f.n + 1; omega
   · rcases tput_mem1 hp with rfl | hp
     · exact hrk
     · exact h8 p hp
   · exact ⟨by rw [List.length_set]; exact gs.1, fun i hl hi => by
       rw [zWa (by simp [rFoot] at hi; exact fun e => hi.1 e.symm)]; exact gs.2 i hl hi⟩
def rNumSpec : Vm.Spec := fun args h Q => ∃ (R : RId) (f : Fun) (k : List UInt8), args = [.ptr R.iv 0, .sl 1 (k.map encB)] ∧ isRef h R f ∧ f.n ≤ 536870912 ∧ ∀ b, Q (.tup [.v (.int .i64 (readOf f k)), .v (.bool b)]) h
theorem does_rNum : Does Tryz.prog 114 rNumSpec := by
 refine dA (good_cons does_rGet (good_cons does_rUnpack good_nil)) Tryz.func114 rfl (by decide +kernel) ?_
 rintro args h Q ⟨R, f, k, rfl, hR, hn, hq⟩
 refine ⟨by simp [Tryz.f114], ?_⟩
 unfold readOf at hq
 have hlen := fun l hf => (hR.len (k := k) (l := l) hf).2
 simp -dsimp only [Vm.E, zA, zB, zC, zD, zE, zG, zH]
 refine call_one (S := rGetSpec) rfl _ GaL.rfl ⟨R, f, k, rfl, hR, hn, fun l hf => ?_, fun hf => ?_⟩
 · have hl := hlen l hf
   rw [hf] at hq
   have hq : ∀ b, Q (.tup [.v (.int .i64 (if l.length = 8 then num8 l 0 else 0)), .v (.bool b)]) h := hq
   simp -dsimp only [Vm.E, zA, zB, zC, zD, zE, zG, zH]
   refine call_one (S := unpackSpec) rfl _ GaL.rfl ⟨l, 1, by omega, by unfold I64; omega, rfl, ?_⟩
   unfold unpackRes
   by_cases h8 : l.length = 8
   · rw [if_pos h8] at hq
     rw [if_neg (by omega), if_neg (by simp [h8])]
     have e0 : (numsOf l 1)[0]'(by simp [numsOf]) = num8 l 0 := by simp [numsOf]
     simp -dsimp only [Vm.E, zA, zB, zC, zD, zE, zG, zH, bne_self_eq_false, es162, as162]
     refine idx_ints (numsOf l 1) 0 (by simp [numsOf]) ?_
     simp -dsimp only [Vm.E, zA, zB, zC, zD, zE, zG, zH, of3, e0, Tryz.results114]
     exact hq true
   · rw [if_neg h8] at hq
     rw [if_neg (by omega), if_pos (by omega)]
     simp -dsimp only [Vm.E, zA, zB, zC, zD, zE, zG, zH, Tryz.results114]
     exact hq false
 · rw [hf] at hq
   simp -dsimp only [Vm.E, zA, zB, zC, zD, zE, zG, zH]
   refine call_one (S := unpackSpec) rfl _ GaL.rfl ⟨[], 1, by simp, by unfold I64; omega, rfl, ?_⟩
   unfold unpackRes
   rw [if_neg (by omega), if_pos (by simp)]
   simp -dsimp only [Vm.E, zA, zB, zC, zD, zE, zG, zH, Tryz.results114]
   exact hq false
def rStateSpec : Vm.Spec := fun args h Q => ∃ (R : RId) (f : Fun) (n : Int), args = [.ptr R.iv 0, .v (.int .i64 n)] ∧ isRef h R f ∧ f.n ≤ 536870912 ∧ Q (.v (.int .i64 (stateOf f n))) h
theorem does_rState : Does Tryz.prog 61 rStateSpec := by
 refine dA (good_cons does_rKey (good_cons does_rNum good_nil)) Tryz.func61 rfl (by decide +kernel) ?_
 rintro args h Q ⟨R, f, n, rfl, hR, hn, hq⟩
 refine ⟨by simp [Tryz.f61], ?_⟩
 unfold stateOf at hq
 simp -dsimp only [Vm.E, zA, zB, zC, zD, zE, zG, zH, es162]
 refine bs_intro zr3 (by decide) (by decide) rfl rfl (by simp [solid, AV.cells]) ?_
 simp -dsimp only [Vm.E, zA, zB, zC, zD, zE, zG, zH]
 refine call_one (S := keySpec) rfl _ GaL.rfl ⟨89, [n], by simp, rfl, ?_⟩
 simp -dsimp only [Vm.E, zA, zB, zC, zD, zE, zG, zH]
 refine call_one (S := rNumSpec) rfl _ GaL.rfl ⟨R, f, yrK n, rfl, hR, hn, fun b => ?_⟩
 generalize readOf f (yrK n) = x at hq ⊢
 simp -dsimp only [Vm.E, zA, zB, zC, zD, zE, zG, zH]
 cases c1 : (x == 1)
 · have d1 : ¬ x = 1 := by simpa using c1
   simp -dsimp only [Vm.E, zA, zB, zC, zD, zE, zG, zH]
   cases c2 : (x == 2)
   · have d2 : ¬ x = 2 := by simpa using c2
     rw [if_neg (by simp [d1, d2])] at hq
     simp -dsimp only [Vm.E, zA, zB, zC, zD, zE, zG, zH, Tryz.results61]
     exact hq
   · have d2 : x = 2 := by simpa using c2
     rw [if_pos (.inr d2)] at hq
     simp -dsimp only [Vm.E, zA, zB, zC, zD, zE, zG, zH, Tryz.results61]
     exact hq
 · have d1 : x = 1 := by simpa using c1
   rw [if_pos (.inl d1)] at hq
   simp -dsimp only [Vm.E, zA, zB, zC, zD, zE, zG, zH, Tryz.results61]
   exact hq
def ySetSpec : Vm.Spec := fun args h Q => ∃ (R : RId) (f : Fun) (n st : Int), args = [.ptr R.iv 0, .v (.int .i64 n), .v (.int .i64 st)] ∧ I64 st ∧ isRef h R f ∧ f.n ≤ 536870912 ∧ ∀ h', isRef h' R (yrTurn f n st) → Same h h' (rFoot R) → Q (.v (.int .i64 0)) h'
theorem does_ySet : Does Tryz.prog 62 ySetSpec := by
 refine dA (good_cons does_rKey (good_cons does_rPack (good_cons does_rPut good_nil))) Tryz.func62 rfl (by decide +kernel) ?_
 rintro args h Q ⟨R, f, n, st, rfl, hst, hR, hn, hq⟩
 refine ⟨by simp [Tryz.f62], ?_⟩
 simp -dsimp only [Vm.E, zA, zB, zC, zD, zE, zG, zH, es162]
 refine bs_intro zr3 (by decide) (by decide) rfl rfl (by simp [solid, AV.cells]) ?_
 simp -dsimp only [Vm.E, zA, zB, zC, zD, zE, zG, zH]
 refine call_one (S := keySpec) rfl _ GaL.rfl ⟨89, [n], by simp, rfl, ?_⟩
 simp -dsimp only [Vm.E, zA, zB, zC, zD, zE, zG, zH, es162]
 refine bs_intro zr3 (by decide) (by decide) rfl rfl (by simp [solid, AV.cells]) ?_
 simp -dsimp only [Vm.E, zA, zB, zC, zD, zE, zG, zH]
 refine call_one (S := packSpec) rfl _ GaL.rfl ⟨[st], by simp, by simpa using hst, rfl, ?_⟩
 simp only [packOf_one]
 simp -dsimp only [Vm.E, zA, zB, zC, zD, zE, zG, zH]
 refine call_one (S := rPutSpec) rfl _ GaL.rfl ⟨R, f, yrK n, be 8 st, rfl, hR, hn, fun _ h' g1 g2 => ?_, fun hc => by rw [right_yr] at hc; cases hc⟩
 simp -dsimp only [Vm.E, zA, zB, zC, zD, zE, zG, zH, Tryz.results62]
 exact hq h' g1 g2
theorem does_rYRight : Does Tryz.prog 60 yrRightSpec := by
 refine dA good_nil Tryz.func60 rfl (by decide +kernel) ?_
 rintro args h Q ⟨n, rfl, hq⟩
 refine ⟨by simp [Tryz.f60], ?_⟩
 unfold rightY at hq
 simp -dsimp only [Vm.E, zA, zB, zC, zD, zE, zG, zH]
 have e : decide (n ≥ 2000) = decide (2000 ≤ n) := rfl
 cases c1 : decide (2000 ≤ n)
 · rw [c1] at hq
   simp -dsimp only [Vm.E, zA, zB, zC, zD, zE, zG, zH, e, c1, Tryz.results60]
   exact hq
 · rw [c1] at hq
   simp -dsimp only [Vm.E, zA, zB, zC, zD, zE, zG, zH, e, c1, Tryz.results60]
   exact hq
def rOpenSpec : Vm.Spec := fun args h Q => ∃ (R : RId) (f : Fun) (n : Int), args = [.ptr R.iv 0, .v (.int .i64 n)] ∧ isRef h R f ∧ f.n ≤ 536870912 ∧ ∀ h', isRef h' R (openOf f n).1 → Same h h' (rFoot R) → Q (.v (.int .i64 (openOf f n).2)) h'
theorem does_rOpen : Does Tryz.prog 25 rOpenSpec := by
 refine dA (good_cons does_rYRight (good_cons does_rState (good_cons does_ySet good_nil))) Tryz.func25 rfl (by decide +kernel) ?_
 rintro args h Q ⟨R, f, n, rfl, hR, hn, hq⟩
 refine ⟨by simp [Tryz.f25], ?_⟩
 unfold openOf at hq
 simp -dsimp only [Vm.E, zA, zB, zC, zD, zE, zG, zH]
 refine call_one (S := yrRightSpec) rfl _ GaL.rfl ⟨n, rfl, ?_⟩
 cases c1 : rightY n
 · rw [c1] at hq
   simp -dsimp only [Vm.E, zA, zB, zC, zD, zE, zG, zH, Tryz.results25]
   exact hq h hR (.refl _ _)
 · rw [c1] at hq
   simp -dsimp only [Vm.E, zA, zB, zC, zD, zE, zG, zH]
   refine call_one (S := rStateSpec) rfl _ GaL.rfl ⟨R, f, n, rfl, hR, hn, ?_⟩
   simp -dsimp only [Vm.E, zA, zB, zC, zD, zE, zG, zH]
   cases c2 : (stateOf f n != 0)
   · have d2 : stateOf f n = 0 := by simpa using c2
     rw [if_pos rfl, if_pos d2] at hq
     simp -dsimp only [Vm.E, zA, zB, zC, zD, zE, zG, zH]
     refine call_one (S := ySetSpec) rfl _ GaL.rfl ⟨R, f, n, 1, rfl, by unfold I64; omega, hR, hn, fun h' g1 g2 => ?_⟩
     simp -dsimp only [Vm.E, zA, zB, zC, zD, zE, zG, zH, Tryz.results25]
     exact hq h' g1 g2
   · have d2 : ¬ stateOf f n = 0 := by simpa using c2
     rw [if_pos rfl, if_neg d2] at hq
     simp -dsimp only [Vm.E, zA, zB, zC, zD, zE, zG, zH, Tryz.results25]
     exact hq h hR (.refl _ _)
end Go.Proofs.Lx
namespace Go.Proofs.Lx
open Go.Vm
attribute [local irreducible] awpArr awpBin awpMake awpAppend awpCvX awpStrOf awpBinX awpSlice awpBS awpStore awpAlloc awpCopy awpIndex awpDraw awpIdxX awpFa awpField awpLookup awpUpdate awpDelete awpClear awpRange awpNext awpEntry awpBuild awpClearS awpIdxL awpTree appB
def Both (h : Heap) (V : VId) (R : RId) (f : Fun) : Prop := isView h V f ∧ isRef h R f ∧ (∀ i ∈ [V.iv, V.ic, V.im], i ∉ [R.iv, R.iw, R.inn, R.it])
theorem get_lt {h : Heap} {i : Nat} {o : AObj} (hx : h[i]? = some o) : i < h.length := by
 rcases zQb i h.length with h' | h'
 · exact h'
 · rw [zUa h'] at hx; cases hx
theorem Same.get {h h' : Heap} {fp : List Nat} (hs : Same h h' fp) {i : Nat} {o : AObj} (hx : h[i]? = some o) (hi : i ∉ fp) : h'[i]? = some o := by rw [hs.2 i (get_lt hx) hi]; exact hx
theorem isView.same {h h' : Heap} {V : VId} {f : Fun} {fp : List Nat} (hV : isView h V f) (hs : Same h h' fp) (hd : ∀ i ∈ [V.iv, V.ic, V.im], i ∉ fp) : isView h' V f := by
 obtain ⟨chg, clk, mem, clk2, h1, h2, h3, h4⟩ := hV
 exact ⟨chg, clk, mem, clk2, hs.get h1 (hd _ (by simp)), hs.get h2 (hd _ (by simp)), hs.get h3 (hd _ (by simp)), h4⟩
theorem isRef.same {h h' : Heap} {R : RId} {f : Fun} {fp : List Nat} (hR : isRef h R f) (hs : Same h h' fp) (hd : ∀ i ∈ [R.iv, R.iw, R.inn, R.it], i ∉ fp) : isRef h' R f := by
 obtain ⟨lw, ln, lt, h1, h2, h3, h4, h5⟩ := hR
 exact ⟨lw, ln, lt, hs.get h1 (hd _ (by simp)), hs.get h2 (hd _ (by simp)), hs.get h3 (hd _ (by simp)), hs.get h4 (hd _ (by simp)), h5⟩
theorem Both.view {h h' : Heap} {V : VId} {R : RId} {f g : Fun} (hB : Both h V R f) (hV : isView h' V g) (hs : Same h h' [V.ic]) : isRef h' R f := by
 refine hB.2.1.same hs fun i hi hm => ?_
 rw [zNa] at hm; subst hm
 exact hB.2.2 V.ic (by simp) hi
theorem Both.ref {h h' h2 : Heap} {V : VId} {R : RId} {f g : Fun} (hB : Both h V R f) (hV : isView h' V g) (hR : isRef h2 R g) (hs : Same h' h2 (rFoot R)) : Both h2 V R g := by
 refine ⟨hV.same hs fun i hi hm => ?_, hR, hB.2.2⟩
 refine hB.2.2 i hi ?_
 simp [rFoot] at hm ⊢
 rcases hm with rfl | rfl <;> simp
end Go.Proofs.Lx
namespace Go.Proofs.Lx
open Go.Vm
attribute [local irreducible] awpArr awpBin awpMake awpAppend awpCvX awpStrOf awpBinX awpSlice awpBS awpStore awpAlloc awpCopy awpIndex awpDraw awpIdxX awpFa awpField awpLookup awpUpdate awpDelete awpClear awpRange awpNext awpEntry awpBuild awpClearS awpIdxL
theorem isA_nd {y : AV} (h : IsA (.agg [.int .i64, .int .i64, .int .i64, .int .i64, .int .i64, .bool, .int .i64, .int .i64, .int .i64, .int .i64, .int .i64, .int .i64]) y) : ∃ n : Nd, n.ok ∧ y = ndAv n := by
 simp only [IsA, IsAll] at h
 obtain ⟨ys, ⟨y1, r1, rfl, h1, y2, r2, rfl, h2, y3, r3, rfl, h3, y4, r4, rfl, h4, y5, r5, rfl, h5, y6, r6, rfl, h6, y7, r7, rfl, h7, y8, r8, rfl, h8, y9, r9, rfl, h9, y10, r10, rfl, h10, y11, r11, rfl, h11, y12, r12, rfl, h12, rfl⟩, rfl⟩ := h
 obtain ⟨a1, k1, rfl⟩ := isA_int (by simpa only [IsA] using h1)
 obtain ⟨a2, k2, rfl⟩ := isA_int (by simpa only [IsA] using h2)
 obtain ⟨a3, k3, rfl⟩ := isA_int (by simpa only [IsA] using h3)
 obtain ⟨a4, k4, rfl⟩ := isA_int (by simpa only [IsA] using h4)
 obtain ⟨a5, k5, rfl⟩ := isA_int (by simpa only [IsA] using h5)
 obtain ⟨a6, rfl⟩ := h6
 obtain ⟨a7, k7, rfl⟩ := isA_int (by simpa only [IsA] using h7)
 obtain ⟨a8, k8, rfl⟩ := isA_int (by simpa only [IsA] using h8)
 obtain ⟨a9, k9, rfl⟩ := isA_int (by simpa only [IsA] using h9)
 obtain ⟨a10, k10, rfl⟩ := isA_int (by simpa only [IsA] using h10)
 obtain ⟨a11, k11, rfl⟩ := isA_int (by simpa only [IsA] using h11)
 obtain ⟨a12, k12, rfl⟩ := isA_int (by simpa only [IsA] using h12)
 exact ⟨⟨a1, a2, a3, a4, a5, a6, a7, a8, a9, a10, a11, a12⟩, ⟨k1, k2, k3, k4, k5, k7, k8, k9, k10, k11, k12⟩, rfl⟩
end Go.Proofs.Lx
namespace Go.Proofs.Lx
open Go.Vm
attribute [local irreducible] awpArr awpBin awpMake awpAppend awpCvX awpStrOf awpBinX awpSlice awpBS awpStore awpAlloc awpCopy awpIndex awpDraw awpIdxX awpFa awpField awpLookup awpUpdate awpDelete awpClear awpRange awpNext awpEntry awpBuild awpClearS awpIdxL awpTree appB awpIdxO eltA treeA
def vdelSpec : Vm.Spec := fun args h Q => ∃ (V : VId) (f : Fun) (k : List UInt8), args = [.ptr V.iv 0, .sl 1 (k.map encB)] ∧ isView h V f ∧ (f k = none → Q (.v (.bool false)) h) ∧ (f k ≠ none → ∀ h', isView h' V (upd f k none) → Same h h' [V.ic] → Q (.v (.bool true)) h')
theorem does_vdel : Does Tryz.prog 324 vdelSpec := by
 refine dA (good_cons does_vgetW good_nil) Tryz.func324 rfl (by decide +kernel) ?_
 rintro args h Q ⟨V, f, k, rfl, hV, hq1, hq2⟩
 refine ⟨by simp [Tryz.f324], ?_⟩
 simp -dsimp only [Vm.G, zA, zB, zC, zD, zE, zF, q324.1]
 refine call_one (S := vgetWSpec) rfl _ GaL.rfl ⟨V, f, k, rfl, hV, fun l hf => ?_, fun hf => ?_⟩
 · have hk32 := hV.klen hf
   obtain ⟨chg, clk, mem, clk2, h1, h2, h3, h4, h5, h6, h7⟩ := hV
   simp -dsimp only [Vm.G, zA, zB, zC, zD, zE, zF, q324.1]
   refine draw_cont [] (.take 0 (.take 1 (.take 2 (.take 4 (.take 5 (.alt 3 (.alt 6 (.alt 7 (.done) .stop) .stop) (.alt 6 (.alt 3 (.alt 7 (.done) .stop) .stop) (.stop)))))))) (fun s h' => isView h' V (upd f k none) ∧ Same h h' [V.ic]) (by kernel_rfl) (by kernel_rfl) (by kernel_rfl) (by decide) ?_ ?_
   · repeat' first
       | with_reducible exact True.intro
       | exact ⟨isView.put (l := []) (b := true) h1 h2 h3 h4 h5 h6 h7 (.inr ⟨rfl, rfl⟩) (by simp) hk32, Same.set _ _ _⟩
       | simp -dsimp only [Vm.G, zA, zB, zC, zD, zE, zF, q324.1, h1]
       | refine strOf_sl bt107 k rfl ?_
       | refine update_intro mt71 chg clk h2 trivial (keys_str fun e he => (h5.1 e he).1) ?_
       | refine tree_alt ?_ ?_
   · rintro s h' ⟨g1, g2⟩
     simp -dsimp only [Vm.G, zA, zB, zC, zD, zE, zF, q324.1]
     exact hq2 (by rw [hf]; simp) h' g1 g2
 · simp -dsimp only [Vm.G, zA, zB, zC, zD, zE, zF, q324.1]
   exact hq1 hf
def numberSpec : Vm.Spec := fun args h Q => ∃ b : List UInt8, b.length ≤ 1073741824 ∧ args = [.sl 1 (b.map encB)] ∧ Q (.tup [.v (.int .i64 (if b.length = 8 then num8 b 0 else 0)), .v (.bool (b.length == 8))]) h
theorem does_number : Does Tryz.prog 110 numberSpec := by
 refine dA (good_cons does_unpack good_nil) Tryz.func110 rfl (by decide +kernel) ?_
 rintro args h Q ⟨b, hl, rfl, hq⟩
 refine ⟨by simp [Tryz.f110], ?_⟩
 simp -dsimp only [Vm.G, zA, zB, zC, zD, zE, zF, q110.1]
 refine call_one (S := unpackSpec) rfl _ GaL.rfl ⟨b, 1, by omega, by unfold I64; omega, rfl, ?_⟩
 unfold unpackRes
 by_cases h8 : b.length = 8
 · have c8 : (b.length == 8) = true := by simpa using h8
   rw [if_pos h8, c8] at hq
   rw [if_neg (by omega), if_neg (by simp [h8])]
   simp -dsimp only [Vm.G, zA, zB, zC, zD, zE, zF, q110.1, bne_self_eq_false]
   refine idx_ints (numsOf b 1) 0 (by simp [numsOf]) ?_
   have e0 : (numsOf b 1)[0]'(by simp [numsOf]) = num8 b 0 := by simp [numsOf]
   simp -dsimp only [Vm.G, zA, zB, zC, zD, zE, zF, q110.1, e0]
   exact hq
 · have c8 : (b.length == 8) = false := by simpa using h8
   rw [if_neg h8, c8] at hq
   rw [if_neg (by omega), if_pos (by omega)]
   simp -dsimp only [Vm.G, zA, zB, zC, zD, zE, zF, q110.1]
   exact hq
def balReadSpec : Vm.Spec := fun args h Q => ∃ (V : VId) (f : Fun) (key : List UInt8), args = [.agg [.ptr V.iv 0, .sl 1 (key.map encB)]] ∧ isView h V f ∧ Q (.v (.int .i64 (readOf f key))) h
theorem does_balRead : Does Tryz.prog 56 balReadSpec := by
 refine dA (good_cons does_vgetW (good_cons does_number good_nil)) Tryz.func56 rfl (by decide +kernel) ?_
 rintro args h Q ⟨V, f, key, rfl, hV, hq⟩
 refine ⟨by simp [Tryz.f56], ?_⟩
 unfold readOf at hq
 simp -dsimp only [Vm.G, zA, zB, zC, zD, zE, zF, q56.1]
 refine call_one (S := vgetWSpec) rfl _ GaL.rfl ⟨V, f, key, rfl, hV, fun l hf => ?_, fun hf => ?_⟩
 · have hl := hV.len _ _ hf
   rw [hf] at hq
   have hq : Q (.v (.int .i64 (if l.length = 8 then num8 l 0 else 0))) h := hq
   simp -dsimp only [Vm.G, zA, zB, zC, zD, zE, zF, q56.1]
   refine call_one (S := numberSpec) rfl _ GaL.rfl ⟨l, by omega, rfl, ?_⟩
   simp -dsimp only [Vm.G, zA, zB, zC, zD, zE, zF, q56.1]
   exact hq
 · rw [hf] at hq
   simp -dsimp only [Vm.G, zA, zB, zC, zD, zE, zF, q56.1]
   exact hq
def balSet (f : Fun) (key : List UInt8) (n : Int) : Fun := if n = 0 then (if f key = none then f else upd f key none) else upd f key (some (be 8 n))
theorem right8 {key : List UInt8} (n : Int) (h1 : 1 ≤ key.length) (h2 : key.length ≤ 32) : rightKV key (be 8 n) = true := by
 simp [rightKV, be_length]; omega
def balWriteSpec : Vm.Spec := fun args h Q => ∃ (V : VId) (f : Fun) (key : List UInt8) (n : Int), args = [.agg [.ptr V.iv 0, .sl 1 (key.map encB)], .v (.int .i64 n)] ∧ I64 n ∧ (1 ≤ key.length ∧ key.length ≤ 32) ∧ isView h V f ∧
 ∀ h', isView h' V (balSet f key n) → Same h h' [V.ic] → Q (.v (.int .i64 0)) h'
theorem does_balWrite : Does Tryz.prog 280 balWriteSpec := by
 refine dA (good_cons does_vdel (good_cons does_pack (good_cons does_vput good_nil))) Tryz.func280 rfl (by decide +kernel) ?_
 rintro args h Q ⟨V, f, key, n, rfl, hn, hk, hV, hq⟩
 refine ⟨by simp [Tryz.f280], ?_⟩
 unfold balSet at hq
 simp -dsimp only [Vm.G, zA, zB, zC, zD, zE, zF, q280.1]
 cases c1 : (n != 0)
 · have d1 : n = 0 := by simpa using c1
   simp only [if_pos d1] at hq
   simp -dsimp only [Vm.G, zA, zB, zC, zD, zE, zF, q280.1]
   refine call_one (S := vdelSpec) rfl _ GaL.rfl ⟨V, f, key, rfl, hV, fun hf => ?_, fun hf h' g1 g2 => ?_⟩
   · simp -dsimp only [Vm.G, zA, zB, zC, zD, zE, zF, q280.1]
     exact hq h (by rw [if_pos hf]; exact hV) (.refl _ _)
   · simp -dsimp only [Vm.G, zA, zB, zC, zD, zE, zF, q280.1]
     exact hq h' (by rw [if_neg hf]; exact g1) g2
 · have d1 : ¬ n = 0 := by simpa using c1
   simp only [if_neg d1] at hq
   simp -dsimp only [Vm.G, zA, zB, zC, zD, zE, zF, q280.1]
   refine draw_cont [2] (.take 0 (.take 1 (.take 2 (.take 3 (.take 4 (.alt 5 (.alt 6 (.alt 7 (.alt 8 (.done) .stop) .stop) .stop) .stop)))))) (fun s h' => isView h' V (upd f key (some (be 8 n))) ∧ Same h h' [V.ic] ∧ s 4 = .v (.int .i64 0)) (by kernel_rfl) (by kernel_rfl) (by kernel_rfl) (by decide) ?_ ?_
   · simp -dsimp only [Vm.G, zA, zB, zC, zD, zE, zF, q280.1]
     refine bs_intro zr3 (by decide) (by decide) rfl rfl (by simp [solid, AV.cells]) ?_
     simp -dsimp only [Vm.G, zA, zB, zC, zD, zE, zF, q280.1]
     refine call_one (S := packSpec) rfl _ GaL.rfl ⟨[n], by simp, by simpa using hn, rfl, ?_⟩
     simp only [packOf_one]
     simp -dsimp only [Vm.G, zA, zB, zC, zD, zE, zF, q280.1]
     refine call_one (S := vputSpec) rfl _ GaL.rfl ⟨V, f, key, be 8 n, rfl, hV, fun _ h' g1 g2 => ?_, fun hc => by rw [right8 n hk.1 hk.2] at hc; cases hc⟩
     simp -dsimp only [Vm.G, zA, zB, zC, zD, zE, zF, q280.1]
     exact ⟨g1, g2, trivial⟩
   · rintro s h' ⟨g1, g2, g3⟩
     simp -dsimp only [Vm.G, zA, zB, zC, zD, zE, zF, q280.1, g3]
     exact hq h' g1 g2
def fitsP (n : Int) : Bool := decide (-4611686018427387904 ≤ n) && decide (n ≤ 4611686018427387904)
theorem does_fits : Does Tryz.prog 323 (predSpec fitsP) := by
 refine dA good_nil Tryz.func323 rfl (by decide +kernel) ?_
 rintro args h Q ⟨n, rfl, hq⟩
 refine ⟨by simp [Tryz.f323], ?_⟩
 unfold fitsP at hq
 simp -dsimp only [Vm.G, zA, zB, zC, zD, zE, zF, q323.1]
 cases c1 : decide (-4611686018427387904 ≤ n)
 · rw [c1] at hq
   simp -dsimp only [Vm.G, zA, zB, zC, zD, zE, zF, q323.1]
   exact hq
 · rw [c1] at hq
   simp -dsimp only [Vm.G, zA, zB, zC, zD, zE, zF, q323.1]
   exact hq
def addA (a b : Int) : Option Int := if fitsP a && (fitsP b && fitsP (w64 (a + b))) then some (w64 (a + b)) else none
def addSpec : Vm.Spec := fun args h Q => ∃ a b, args = [.v (.int .i64 a), .v (.int .i64 b)] ∧ (∀ n, addA a b = some n → Q (.tup [.v (.int .i64 n), .v (.int .i64 0)]) h) ∧ (addA a b = none → Q (.tup [.v (.int .i64 0), .v (.int .i64 9)]) h)
theorem does_add : Does Tryz.prog 279 addSpec := by
 refine dA (good_cons does_fits good_nil) Tryz.func279 rfl (by decide +kernel) ?_
 rintro args h Q ⟨a, b, rfl, hq1, hq2⟩
 refine ⟨by simp [Tryz.f279], ?_⟩
 unfold addA at hq1 hq2
 simp -dsimp only [Vm.G, zA, zB, zC, zD, zE, zF, q279.1]
 refine call_one (S := predSpec fitsP) rfl _ GaL.rfl ⟨a, rfl, ?_⟩
 cases c1 : fitsP a
 · simp -dsimp only [Vm.G, zA, zB, zC, zD, zE, zF, q279.1]
   exact hq2 (by rw [c1]; rfl)
 · simp -dsimp only [Vm.G, zA, zB, zC, zD, zE, zF, q279.1]
   refine call_one (S := predSpec fitsP) rfl _ GaL.rfl ⟨b, rfl, ?_⟩
   cases c2 : fitsP b
   · simp -dsimp only [Vm.G, zA, zB, zC, zD, zE, zF, q279.1]
     exact hq2 (by rw [c1, c2]; rfl)
   · simp -dsimp only [Vm.G, zA, zB, zC, zD, zE, zF, q279.1]
     refine call_one (S := predSpec fitsP) rfl _ GaL.rfl ⟨_, rfl, ?_⟩
     cases c3 : fitsP (IntKind.i64.wrap (a + b))
     · simp -dsimp only [Vm.G, zA, zB, zC, zD, zE, zF, q279.1]
       exact hq2 (by rw [c1, c2, c3]; rfl)
     · simp -dsimp only [Vm.G, zA, zB, zC, zD, zE, zF, q279.1]
       exact hq1 _ (by rw [c1, c2, c3]; rfl)
def ofBalSpec : Vm.Spec := fun args h Q => ∃ (iv : Nat) (l : List Int), l.length ≤ 7 ∧ args = [.ptr iv 0, .sl 1 (l.map encI)] ∧ Q (.agg [.ptr iv 0, .sl 1 ((keyOf 66 l).map encB)]) h
theorem does_ofBal : Does Tryz.prog 55 ofBalSpec := by
 refine dA (good_cons does_key good_nil) Tryz.func55 rfl (by decide +kernel) ?_
 rintro args h Q ⟨iv, l, hl, rfl, hq⟩
 refine ⟨by simp [Tryz.f55], ?_⟩
 simp -dsimp only [Vm.G, zA, zB, zC, zD, zE, zF, q55.1]
 refine call_one (S := keySpec) rfl _ GaL.rfl ⟨66, l, by omega, rfl, ?_⟩
 simp -dsimp only [Vm.G, zA, zB, zC, zD, zE, zF, q55.1]
 exact hq
def balK (y fd ob : Int) : List UInt8 := keyOf 66 [y, fd, ob]
theorem balK_length (y fd ob : Int) : (balK y fd ob).length = 13 := by simp [balK, keyOf, packs, be_length]
structure Ln where
 fund : Int
 obj : Int
 node : Int
 amt : Int
def lnCells (x : Ln) : List AV := [.v (.int .i64 x.fund), .v (.int .i64 x.obj), .v (.int .i64 x.node), .v (.int .i64 x.amt)]
def lnAv (x : Ln) : AV := .agg (lnCells x)
def balGetSpec : Vm.Spec := fun args h Q => ∃ (V : VId) (f : Fun) (y fd ob : Int), args = [.ptr V.iv 0, .v (.int .i64 y), .v (.int .i64 fd), .v (.int .i64 ob)] ∧ isView h V f ∧ Q (.v (.int .i64 (readOf f (balK y fd ob)))) h
theorem does_balGet : Does Tryz.prog 21 balGetSpec := by
 refine dA (good_cons does_ofBal (good_cons does_balRead good_nil)) Tryz.func21 rfl (by decide +kernel) ?_
 rintro args h Q ⟨V, f, y, fd, ob, rfl, hV, hq⟩
 refine ⟨by simp [Tryz.f21], ?_⟩
 simp -dsimp only [Vm.G, zA, zB, zC, zD, zE, zF, q21.1]
 refine bs_intro zr3 (by decide) (by decide) rfl rfl (by simp [solid, AV.cells]) ?_
 simp -dsimp only [Vm.G, zA, zB, zC, zD, zE, zF, q21.1]
 refine call_one (S := ofBalSpec) rfl _ GaL.rfl ⟨V.iv, [y, fd, ob], by simp, rfl, ?_⟩
 simp -dsimp only [Vm.G, zA, zB, zC, zD, zE, zF, q21.1]
 refine call_one (S := balReadSpec) rfl _ GaL.rfl ⟨V, f, balK y fd ob, rfl, hV, ?_⟩
 simp -dsimp only [Vm.G, zA, zB, zC, zD, zE, zF, q21.1]
 exact hq
theorem addA_i64 {a b n : Int} (h : addA a b = some n) : I64 n := by
 unfold addA at h
 split at h
 · cases h; exact w64_range _
 · cases h
def balAdd (f : Fun) (key : List UInt8) (amt : Int) : Fun × Int := match addA (readOf f key) amt with
 | some n => (balSet f key n, 0)
 | none => (f, 9)
def balAddSpec : Vm.Spec := fun args h Q => ∃ (V : VId) (f : Fun) (y : Int) (x : Ln), args = [.ptr V.iv 0, .v (.int .i64 y), lnAv x] ∧ isView h V f ∧
 ∀ h', isView h' V (balAdd f (balK y x.fund x.obj) x.amt).1 → Same h h' [V.ic] → Q (.v (.int .i64 (balAdd f (balK y x.fund x.obj) x.amt).2)) h'
theorem does_balAdd : Does Tryz.prog 224 balAddSpec := by
 refine dA (good_cons does_ofBal (good_cons does_balRead (good_cons does_add (good_cons does_balWrite good_nil)))) Tryz.func224 rfl (by decide +kernel) ?_
 rintro args h Q ⟨V, f, y, x, rfl, hV, hq⟩
 refine ⟨by simp [Tryz.f224], ?_⟩
 simp only [lnAv, lnCells]
 simp -dsimp only [Vm.G, zA, zB, zC, zD, zE, zF, q224.1]
 refine bs_intro zr3 (by decide) (by decide) rfl rfl (by simp [solid, AV.cells]) ?_
 simp -dsimp only [Vm.G, zA, zB, zC, zD, zE, zF, q224.1]
 refine call_one (S := ofBalSpec) rfl _ GaL.rfl ⟨V.iv, [y, x.fund, x.obj], by simp, rfl, ?_⟩
 have hkl := balK_length y x.fund x.obj
 have ek : keyOf 66 [y, x.fund, x.obj] = balK y x.fund x.obj := rfl
 simp only [ek]
 generalize balK y x.fund x.obj = key at hkl hq ⊢
 unfold balAdd at hq
 simp -dsimp only [Vm.G, zA, zB, zC, zD, zE, zF, q224.1]
 refine draw_cont [5, 7] (.take 0 (.take 2 (.take 3 (.alt 1 (.alt 4 (.take 5 (.take 6 (.take 7 (.alt 8 (.alt 9 (.done) .stop) .stop)))) .stop) .stop)))) (fun s h' => h' = h ∧ s 7 = .eptr [.ptr V.iv 0, .sl 1 (key.map encB)] ∧ ((∃ n, addA (readOf f key) x.amt = some n ∧ s 8 = .v (.int .i64 n) ∧ s 9 = .v (.int .i64 0)) ∨ (addA (readOf f key) x.amt = none ∧ s 9 = .v (.int .i64 9)))) (by kernel_rfl) (by kernel_rfl) (by kernel_rfl) (by decide) ?_ ?_
 · simp -dsimp only [Vm.G, zA, zB, zC, zD, zE, zF, q224.1]
   refine call_one (S := balReadSpec) rfl _ GaL.rfl ⟨V, f, key, rfl, hV, ?_⟩
   simp -dsimp only [Vm.G, zA, zB, zC, zD, zE, zF, q224.1]
   refine call_one (S := addSpec) rfl _ GaL.rfl ⟨readOf f key, x.amt, rfl, fun n hn => ?_, fun hn => ?_⟩
   · simp -dsimp only [Vm.G, zA, zB, zC, zD, zE, zF, q224.1]
     exact .inl ⟨n, hn, rfl, trivial⟩
   · simp -dsimp only [Vm.G, zA, zB, zC, zD, zE, zF, q224.1]
     exact .inr ⟨hn, trivial⟩
 · rintro s h' ⟨rfl, e7, ⟨n, hn, e8, e9⟩ | ⟨hn, e9⟩⟩
   · rw [hn] at hq
     simp -dsimp only [Vm.G, zA, zB, zC, zD, zE, zF, q224.1, e7, e8, e9]
     refine call_one (S := balWriteSpec) rfl _ GaL.rfl ⟨V, f, key, n, rfl, addA_i64 hn, by omega, hV, fun h2 g1 g2 => ?_⟩
     simp -dsimp only [Vm.G, zA, zB, zC, zD, zE, zF, q224.1]
     exact hq h2 g1 g2
   · rw [hn] at hq
     simp -dsimp only [Vm.G, zA, zB, zC, zD, zE, zF, q224.1, e7, e9]
     exact hq h' hV (.refl _ _)
def balOf (year : Int) (p : KV) : Option Ln := match splitOf p.1 with
 | some (_, [y, fd, ob]) => if p.2.length = 8 then (if y = year then some ⟨fd, ob, 0, num8 p.2 0⟩ else none) else none
 | _ => none
abbrev allB (year : Int) (l : List KV) : List Ln := l.filterMap (balOf year)
def balAllSpec : Vm.Spec := fun args h Q => ∃ (V : VId) (f : Fun) (year : Int), args = [.ptr V.iv 0, .v (.int .i64 year)] ∧ isView h V f ∧ f.n ≤ 536870912 ∧
 ∀ l h', ScanIs f (keyOf 66 [year]) l → l.length ≤ 2 * f.n → isView h' V f → Same h h' [] → Q (.own true 45 4 ((allB year l).map lnAv)) h'
theorem does_balAll : Does Tryz.prog 82 balAllSpec := by
 refine dA (good_cons does_key (good_cons does_scan (good_cons does_split (good_cons does_number good_nil)))) Tryz.func82 rfl (by decide +kernel) ?_
 rintro args h Q ⟨V, f, year, rfl, hV, hn, hq⟩
 refine ⟨by simp [Tryz.f82], ?_⟩
 simp -dsimp only [Vm.G, zA, zB, zC, zD, zE, zF, q82.1]
 refine bs_intro zr3 (by decide) (by decide) rfl rfl (by simp [solid, AV.cells]) ?_
 simp -dsimp only [Vm.G, zA, zB, zC, zD, zE, zF, q82.1]
 refine call_one (S := keySpec) rfl _ GaL.rfl ⟨66, [year], by simp, rfl, ?_⟩
 simp -dsimp only [Vm.G, zA, zB, zC, zD, zE, zF, q82.1]
 refine call_one (S := scanSpec) rfl _ GaL.rfl ⟨V, f, keyOf 66 [year], rfl, by rw [key1_length]; decide, hV, hn, fun l h1 hsc hln hV1 hs1 => ?_⟩
 simp -dsimp only [Vm.G, zA, zB, zC, zD, zE, zF, q82.1]
 refine awp_loop (fun m s h' => ∃ i : Nat, i + m = l.length ∧ h' = h1 ∧ s = mk [(1, .v (.int .i64 year)), (5, .own true 45 4 ((allB year (l.take (i))).map lnAv)), (17, .own true 124 2 (l.map kvAv)), (18, .v (.int .i64 l.length)), (19, .v (.int .i64 (i : Nat)))])
   l.length _ (le_mk _ ?_) ⟨0, by omega, rfl, rfl⟩ ?_
 · simp only [Vm.D]
   try simp -dsimp only [Vm.G, zA, zB, zC, zD, zE, zF, q82.1]
   repeat' first | exact .refl _ | exact .nil _ _ _ (by decide) | refine ⟨?_, ?_⟩
 · rintro m s h' ⟨i, hi, rfl, rfl⟩
   simp -dsimp only [Vm.G, zA, zB, zC, zD, zE, zF, q82.1]
   refine cond_intro (fun hcc => ?_) (fun hcc => ?_)
   · have hlt : i < l.length := by have := of_decide_eq_true hcc; omega
     have hw := hwN i (by omega)
     have hget : (l.map kvAv)[i]? = some (kvAv l[i]) := by simp [hlt]
     have est := filterMap_step (balOf year) l i hlt
     have hal : (allB year (l.take i)).length ≤ i := filterMap_le (balOf year) l i
     have hin := ((hsc.2 l[i].1 l[i].2).1 (zUb hlt)).1
     have hkl : l[i].1.length ≤ 32 := hV.klen hin
     have hvl : l[i].2.length ≤ 120 := hV.len _ _ hin
     clear hin
     generalize l[i] = p at hget est hkl hvl
     obtain ⟨k, v⟩ := p
     simp only at hkl hvl
     have e0 : balOf year (k, v) = match splitOf k with
       | some (_, [y, fd, ob]) => if v.length = 8 then (if y = year then some ⟨fd, ob, 0, num8 v 0⟩ else none) else none
       | _ => none := rfl
     simp -dsimp only [Vm.G, zA, zB, zC, zD, zE, zF, q82.1]
     refine idxO_intro (by omega) (by simp; omega) ?_
     simp -dsimp only [Vm.G, zA, zB, zC, zD, zE, zF, q82.1, zNb]
     refine eltA_intro hget ?_
     simp only [kvAv]
     simp -dsimp only [Vm.G, zA, zB, zC, zD, zE, zF, q82.1, AV.cells, List.drop_zero]
     refine call_one (S := splitSpec) rfl _ GaL.rfl ⟨k, by omega, rfl, fun hs => ?_, fun t l' hs => ?_⟩
     · rw [hs] at e0
       simp only at e0
       rw [e0] at est
       unfold noKey
       simp -dsimp only [Vm.G, zA, zB, zC, zD, zE, zF, q82.1]
       refine call_one (S := numberSpec) rfl _ GaL.rfl ⟨v, by omega, rfl, ?_⟩
       simp -dsimp only [Vm.G, zA, zB, zC, zD, zE, zF, q82.1]
       refine kept_intro ⟨l.length - (i + 1), by omega, _, le_mk [(1, .v (.int .i64 year)), (5, .own true 45 4 ((allB year (l.take (i + 1))).map lnAv)), (17, .own true 124 2 (l.map kvAv)), (18, .v (.int .i64 l.length)), (19, .v (.int .i64 (i + 1 : Nat)))] ?_, i + 1, by omega, rfl, rfl⟩
       simp only [Vm.D, hw, est, zPb, zQa]
       try simp -dsimp only [Vm.G, zA, zB, zC, zD, zE, zF, q82.1, hw, est, zPb, zQa]
       repeat' first | exact .refl _ | exact .nil _ _ _ (by decide) | refine ⟨?_, ?_⟩
     · rw [hs] at e0
       simp -dsimp only [Vm.G, zA, zB, zC, zD, zE, zF, q82.1]
       refine call_one (S := numberSpec) rfl _ GaL.rfl ⟨v, by omega, rfl, ?_⟩
       cases c8 : (v.length == 8)
       · have d8 : ¬ v.length = 8 := by simpa using c8
         have e0 : balOf year (k, v) = none := by
           rw [e0]
           simp only [if_neg d8]
           split <;> rfl
         rw [e0] at est
         simp -dsimp only [Vm.G, zA, zB, zC, zD, zE, zF, q82.1]
         refine kept_intro ⟨l.length - (i + 1), by omega, _, le_mk [(1, .v (.int .i64 year)), (5, .own true 45 4 ((allB year (l.take (i + 1))).map lnAv)), (17, .own true 124 2 (l.map kvAv)), (18, .v (.int .i64 l.length)), (19, .v (.int .i64 (i + 1 : Nat)))] ?_, i + 1, by omega, rfl, rfl⟩
         simp only [Vm.D, hw, est, zPb, zQa]
         try simp -dsimp only [Vm.G, zA, zB, zC, zD, zE, zF, q82.1, hw, est, zPb, zQa]
         repeat' first | exact .refl _ | exact .nil _ _ _ (by decide) | refine ⟨?_, ?_⟩
       · have d8 : v.length = 8 := by simpa using c8
         simp -dsimp only [Vm.G, zA, zB, zC, zD, zE, zF, q82.1]
         by_cases d3 : l'.length = 3
         · have c3 : ((l'.length : Int) == 3) = true := by simp [d3]
           match l', d3 with
           | [y, fd, ob], _ =>
           simp only [if_pos d8] at e0
           have k3 : (((3 : Nat) : Int) == 3) = true := rfl
           have g0 : (([y, fd, ob] : List Int).map encI)[(0 : Int).toNat]? = some (encI y) := rfl
           have g1 : (([y, fd, ob] : List Int).map encI)[(1 : Int).toNat]? = some (encI fd) := rfl
           have g2 : (([y, fd, ob] : List Int).map encI)[(2 : Int).toNat]? = some (encI ob) := rfl
           have hl3 : (([y, fd, ob] : List Int).map encI).length = 3 := rfl
           generalize hxs : ([y, fd, ob] : List Int).map encI = xs at g0 g1 g2 hl3 ⊢
           simp -dsimp only [Vm.G, zA, zB, zC, zD, zE, zF, q82.1, hl3, k3]
           refine idxO_intro (by decide) (by rw [hl3]; decide) ?_
           simp -dsimp only [Vm.G, zA, zB, zC, zD, zE, zF, q82.1]
           refine eltA_intro g0 ?_
           simp only [encI]
           simp -dsimp only [Vm.G, zA, zB, zC, zD, zE, zF, q82.1, AV.cells, List.drop_zero]
           cases cy : (y == year)
           · have dy : ¬ y = year := by simpa using cy
             rw [if_neg dy] at e0
             rw [e0] at est
             simp -dsimp only [Vm.G, zA, zB, zC, zD, zE, zF, q82.1]
             refine kept_intro ⟨l.length - (i + 1), by omega, _, le_mk [(1, .v (.int .i64 year)), (5, .own true 45 4 ((allB year (l.take (i + 1))).map lnAv)), (17, .own true 124 2 (l.map kvAv)), (18, .v (.int .i64 l.length)), (19, .v (.int .i64 (i + 1 : Nat)))] ?_, i + 1, by omega, rfl, rfl⟩
             simp only [Vm.D, hw, est, zPb, zQa]
             try simp -dsimp only [Vm.G, zA, zB, zC, zD, zE, zF, q82.1, hw, est, zPb, zQa]
             repeat' first | exact .refl _ | exact .nil _ _ _ (by decide) | refine ⟨?_, ?_⟩
           · have dy : y = year := by simpa using cy
             rw [if_pos dy] at e0
             rw [e0] at est
             simp -dsimp only [Vm.G, zA, zB, zC, zD, zE, zF, q82.1]
             refine draw_cont [] (.take 0 (.take 1 (.take 2 (.take 4 (.take 5 (.take 7 (.alt 3 (.alt 6 (.alt 8 (.alt 9 (.alt 10 (.alt 11 (.done) .stop) .stop) .stop) .stop) .stop) (.alt 6 (.alt 3 (.alt 8 (.alt 9 (.alt 10 (.alt 11 (.done) .stop) .stop) .stop) .stop) .stop) (.stop))))))))) (fun s h2 => h2 = h' ∧ s 5 = .own true 45 4 ((allB year (l.take (i + 1))).map lnAv) ∧ s 1 = .v (.int .i64 year) ∧ s 17 = .own true 124 2 (l.map kvAv) ∧ s 18 = .v (.int .i64 l.length) ∧ s 19 = .v (.int .i64 i)) (by kernel_rfl) (by kernel_rfl) (by kernel_rfl) (by decide) ?_ ?_
             · repeat' first
                 | with_reducible exact True.intro
                 | simp -dsimp only [Vm.G, zA, zB, zC, zD, zE, zF, q82.1, est, List.map_append, zSb, zRb, zPb, lnAv, lnCells, AV.cells, List.drop_zero, d8, if_true]
                 | refine idxO_intro (by decide) (by rw [hl3]; decide) ?_
                 | (refine eltA_intro g1 ?_; simp only [encI])
                 | (refine eltA_intro g2 ?_; simp only [encI])
                 | refine bs_intro zr45 (by decide) (by decide) rfl rfl (by simp [solid, AV.cells]) ?_
                 | refine app_sl Tryz.underlying33 (by simp [AV.cells]) (by simp only [zJa, zIa, zPa]; omega) ?_
                 | refine tree_alt ?_ ?_
             · rintro s h2 ⟨rfl, e5, e1, e17, e18, e19⟩
               simp -dsimp only [Vm.G, zA, zB, zC, zD, zE, zF, q82.1, e5, e1, e17, e18, e19]
               refine kept_intro ⟨l.length - (i + 1), by omega, _, le_mk [(1, .v (.int .i64 year)), (5, .own true 45 4 ((allB year (l.take (i + 1))).map lnAv)), (17, .own true 124 2 (l.map kvAv)), (18, .v (.int .i64 l.length)), (19, .v (.int .i64 (i + 1 : Nat)))] ?_, i + 1, by omega, rfl, rfl⟩
               simp only [Vm.D, hw, e5, e1, e17, e18, e19]
               try simp -dsimp only [Vm.G, zA, zB, zC, zD, zE, zF, q82.1, hw, e5, e1, e17, e18, e19]
               repeat' first | exact .refl _ | exact .nil _ _ _ (by decide) | refine ⟨?_, ?_⟩
         · have c3 : ((l'.length : Int) == 3) = false := by simp; omega
           have e0 : balOf year (k, v) = none := by
             rw [e0]
             split
             · rename_i h2; cases h2; exact absurd rfl d3
             · rfl
           rw [e0] at est
           simp -dsimp only [Vm.G, zA, zB, zC, zD, zE, zF, q82.1, c3]
           refine kept_intro ⟨l.length - (i + 1), by omega, _, le_mk [(1, .v (.int .i64 year)), (5, .own true 45 4 ((allB year (l.take (i + 1))).map lnAv)), (17, .own true 124 2 (l.map kvAv)), (18, .v (.int .i64 l.length)), (19, .v (.int .i64 (i + 1 : Nat)))] ?_, i + 1, by omega, rfl, rfl⟩
           simp only [Vm.D, hw, est, zPb, zQa]
           try simp -dsimp only [Vm.G, zA, zB, zC, zD, zE, zF, q82.1, hw, est, zPb, zQa]
           repeat' first | exact .refl _ | exact .nil _ _ _ (by decide) | refine ⟨?_, ?_⟩
   · have hge : ¬ i < l.length := by have := of_decide_eq_false hcc; omega
     simp -dsimp only [Vm.G, zA, zB, zC, zD, zE, zF, q82.1]
     rw [zXa (by omega)]
     exact hq l h' hsc hln hV1 hs1
def setv (f : Fun) (key : List UInt8) (n : Int) (q : List UInt8) : Option (List UInt8) := if q = key then (if n = 0 then none else some (be 8 n)) else f q
theorem balSet_app (f : Fun) (key : List UInt8) (n : Int) (q : List UInt8) : balSet f key n q = setv f key n q := by
 unfold balSet setv
 by_cases h0 : n = 0
 · simp only [if_pos h0]
   by_cases hf : f key = none
   · rw [if_pos hf]
     by_cases hq : q = key
     · rw [if_pos hq, hq]; exact hf
     · rw [if_neg hq]
   · rw [if_neg hf, upd_app]
 · simp only [if_neg h0]
   rw [upd_app]
theorem balSet_n (f : Fun) (key : List UInt8) (n : Int) : (balSet f key n).n ≤ f.n + 1 := by
 unfold balSet
 split
 · split
   · exact Nat.le_succ _
   · exact zLa _
 · exact zLa _
theorem balAdd_n (f : Fun) (key : List UInt8) (a : Int) : (balAdd f key a).1.n ≤ f.n + 1 := by
 unfold balAdd
 split
 · exact balSet_n f key _
 · exact Nat.le_succ _
theorem readOf_none {f : Fun} {k : List UInt8} (h : f k = none) : readOf f k = 0 := by unfold readOf; rw [h]
theorem readOf_some {f : Fun} {k : List UInt8} {n : Int} (hn : I64 n) (h : f k = some (be 8 n)) : readOf f k = n := by
 unfold readOf; rw [h]
 simp only [be_length, if_true]
 exact num8_be n hn
theorem setv_read {f f' : Fun} {key : List UInt8} {n : Int} (hn : I64 n) (h : ∀ q, f' q = setv f key n q) : readOf f' key = n := by
 have hk := h key
 unfold setv at hk
 rw [if_pos rfl] at hk
 by_cases h0 : n = 0
 · rw [if_pos h0] at hk; rw [readOf_none hk, h0]
 · rw [if_neg h0] at hk; exact readOf_some hn hk
theorem fits_iff (n : Int) : fitsP n = true ↔ -4611686018427387904 ≤ n ∧ n ≤ 4611686018427387904 := by simp [fitsP]
theorem addA_some {a b n : Int} : addA a b = some n ↔ fitsP a = true ∧ fitsP b = true ∧ fitsP (w64 (a + b)) = true ∧ n = w64 (a + b) := by
 unfold addA
 constructor
 · intro h
   split at h
   · rename_i hc
     simp only [Bool.and_eq_true] at hc
     cases h; exact ⟨hc.1, hc.2.1, hc.2.2, rfl⟩
   · cases h
 · rintro ⟨h1, h2, h3, rfl⟩
   simp [h1, h2, h3]
theorem addA_sum {a b n : Int} (h : addA a b = some n) : n = a + b ∧ fitsP n = true := by
 obtain ⟨h1, h2, h3, rfl⟩ := addA_some.1 h
 rw [fits_iff] at h1 h2
 refine ⟨?_, h3⟩
 by_cases hm : a + b = 9223372036854775808
 · rw [hm] at h3
   exact absurd h3 (by decide)
 · exact wrap_i64 (by omega) (by omega)
end Go.Proofs.Lx
namespace Go.Proofs.Lx
open Go.Vm
attribute [local irreducible] awpArr awpBin awpMake awpAppend awpCvX awpStrOf awpBinX awpSlice awpBS awpStore awpAlloc awpCopy awpIndex awpDraw awpIdxX awpFa awpField awpLookup awpUpdate awpDelete awpClear awpRange awpNext awpEntry awpBuild awpClearS awpIdxL
end Go.Proofs.Lx
namespace Go.Proofs.Lx
open Go.Vm
attribute [local irreducible] awpArr awpBin awpMake awpAppend awpCvX awpStrOf awpBinX awpSlice awpBS awpStore awpAlloc awpCopy awpIndex awpDraw awpIdxX awpFa awpField awpLookup awpUpdate awpDelete awpClear awpRange awpNext awpEntry awpBuild awpClearS awpIdxL awpTree
end Go.Proofs.Lx
namespace Go.Proofs.Lx
open Go.Vm
attribute [local irreducible] awpArr awpBin awpMake awpAppend awpCvX awpStrOf awpBinX awpSlice awpBS awpStore awpAlloc awpCopy awpIndex awpDraw awpIdxX awpFa awpField awpLookup awpUpdate awpDelete awpClear awpRange awpNext awpEntry awpBuild awpClearS awpIdxL awpTree appB awpIdxO eltA treeA
def rPairSpec : Vm.Spec := fun args h Q => ∃ (tag : UInt8) (kl vl : List Int), kl.length ≤ 4611686018427387904 ∧ vl.length ≤ 4611686018427387904 ∧ (∀ n ∈ vl, I64 n) ∧ args = [.v (.int .u8 tag.toNat), .sl 1 (kl.map encI), .sl 1 (vl.map encI)] ∧
 Q (.agg [.sl 1 ((keyOf tag kl).map encB), .sl 1 ((packOf vl).map encB)]) h
theorem does_rPair : Does Tryz.prog 119 rPairSpec := by
 refine dA (good_cons does_rKey (good_cons does_rPack good_nil)) Tryz.func119 rfl (by decide +kernel) ?_
 rintro args h Q ⟨tag, kl, vl, hk, hv, hi, rfl, hq⟩
 refine ⟨by simp [Tryz.f119], ?_⟩
 simp -dsimp only [Vm.G, zA, zB, zC, zD, zE, zF, q119.1]
 refine call_one (S := keySpec) rfl _ GaL.rfl ⟨tag, kl, by omega, rfl, ?_⟩
 simp -dsimp only [Vm.G, zA, zB, zC, zD, zE, zF, q119.1]
 refine call_one (S := packSpec) rfl _ GaL.rfl ⟨vl, by omega, hi, rfl, ?_⟩
 simp -dsimp only [Vm.G, zA, zB, zC, zD, zE, zF, q119.1]
 exact hq
theorem does_rNode : Does Tryz.prog 65 nodeSpec := by
 refine dA (good_cons does_rPair good_nil) Tryz.func65 rfl (by decide +kernel) ?_
 rintro args h Q ⟨n, ⟨o1, o2, o3, o4, o5, o6, o7, o8, o9, o10, o11⟩, rfl, hq⟩
 refine ⟨by simp [Tryz.f65], ?_⟩
 simp only [ndCells]
 cases ha : n.abs
 · simp -dsimp only [Vm.G, zA, zB, zC, zD, zE, zF, q65.1]
   refine bs_intro zr3 (by decide) (by decide) rfl rfl (by simp [solid, AV.cells]) ?_
   simp -dsimp only [Vm.G, zA, zB, zC, zD, zE, zF, q65.1]
   refine bs_intro zr3 (by decide) (by decide) rfl rfl (by simp [solid, AV.cells]) ?_
   simp -dsimp only [Vm.G, zA, zB, zC, zD, zE, zF, q65.1]
   refine call_one (S := rPairSpec) rfl _ GaL.rfl ⟨78, [n.year, n.id], [n.parent, n.fund, n.obj, 0, n.limit, n.pre, n.enc, n.exp, n.lapsed, n.carried], by simp, by simp, ?_, rfl, ?_⟩
   · intro m hm
     simp only [zOa, zYa, or_false] at hm
     have z0 : I64 0 := by unfold I64; omega
     have z1 : I64 1 := by unfold I64; omega
     rcases hm with rfl | rfl | rfl | rfl | rfl | rfl | rfl | rfl | rfl | rfl <;> assumption
   · simp -dsimp only [Vm.G, zA, zB, zC, zD, zE, zF, q65.1]
     have e : packOf (ndVal n) = packOf [n.parent, n.fund, n.obj, 0, n.limit, n.pre, n.enc, n.exp, n.lapsed, n.carried] := by unfold ndVal; rw [ha]; rfl
     rw [e] at hq
     exact hq
 · simp -dsimp only [Vm.G, zA, zB, zC, zD, zE, zF, q65.1]
   refine bs_intro zr3 (by decide) (by decide) rfl rfl (by simp [solid, AV.cells]) ?_
   simp -dsimp only [Vm.G, zA, zB, zC, zD, zE, zF, q65.1]
   refine bs_intro zr3 (by decide) (by decide) rfl rfl (by simp [solid, AV.cells]) ?_
   simp -dsimp only [Vm.G, zA, zB, zC, zD, zE, zF, q65.1]
   refine call_one (S := rPairSpec) rfl _ GaL.rfl ⟨78, [n.year, n.id], [n.parent, n.fund, n.obj, 1, n.limit, n.pre, n.enc, n.exp, n.lapsed, n.carried], by simp, by simp, ?_, rfl, ?_⟩
   · intro m hm
     simp only [zOa, zYa, or_false] at hm
     have z0 : I64 0 := by unfold I64; omega
     have z1 : I64 1 := by unfold I64; omega
     rcases hm with rfl | rfl | rfl | rfl | rfl | rfl | rfl | rfl | rfl | rfl <;> assumption
   · simp -dsimp only [Vm.G, zA, zB, zC, zD, zE, zF, q65.1]
     have e : packOf (ndVal n) = packOf [n.parent, n.fund, n.obj, 1, n.limit, n.pre, n.enc, n.exp, n.lapsed, n.carried] := by unfold ndVal; rw [ha]; rfl
     rw [e] at hq
     exact hq
def isI (x : AV) (l : List Int) : Prop := x = .sl 1 (l.map encI) ∨ (l = [] ∧ x = .v (.slice none 0 0))
theorem isI.ga {x : AV} {l : List Int} (h : isI x l) : Ga x (.sl 1 (l.map encI)) := by
 rcases h with rfl | ⟨rfl, rfl⟩
 · exact .refl _
 · exact .nil 1
def rtPutSpec : Vm.Spec := fun args h Q => ∃ (R : RId) (f : Fun) (n : Nd), args = [.ptr R.iv 0, .agg (ndCells n)] ∧ n.ok ∧ isRef h R f ∧ f.n ≤ 536870912 ∧ ∀ h', isRef h' R (upd f (ndK n) (some (ndV n))) → Same h h' (rFoot R) → Q (.v (.int .i64 0)) h'
theorem does_rtPut : Does Tryz.prog 27 rtPutSpec := by
 refine dA (good_cons does_rNode (good_cons does_rPut good_nil)) Tryz.func27 rfl (by decide +kernel) ?_
 rintro args h Q ⟨R, f, n, rfl, hn, hR, hfn, hq⟩
 refine ⟨by simp [Tryz.f27], ?_⟩
 simp only [ndCells]
 simp -dsimp only [Vm.G, zA, zB, zC, zD, zE, zF, q27.1]
 refine call_one (S := nodeSpec) rfl _ GaL.rfl ⟨n, hn, rfl, ?_⟩
 simp -dsimp only [Vm.G, zA, zB, zC, zD, zE, zF, q27.1]
 refine call_one (S := rPutSpec) rfl _ GaL.rfl ⟨R, f, ndK n, ndV n, rfl, hR, hfn, fun _ h' g1 g2 => ?_, fun hc => by rw [right_nd] at hc; cases hc⟩
 simp -dsimp only [Vm.G, zA, zB, zC, zD, zE, zF, q27.1]
 exact hq h' g1 g2
def askLn (p : Ln → Bool) : Vm.Spec := fun args h Q => ∃ x : Ln, args = [lnAv x] ∧ Q (.v (.bool (p x))) h
def ixSpecLn (T : Tab) : Vm.Spec := fun args h Q => ∃ (g : FuncId) (p : Ln → Bool) (l : List Ln), T g = some (askLn p) ∧ l.length ≤ 9223372036854775807 ∧ args = [.sl 4 (l.map lnAv), .clo g []] ∧ ∀ i : Int, (l.any p = true ↔ 0 ≤ i) → Q (.v (.int .i64 i)) h
theorem does_ixLn {T : Tab} (hT : Good T) : Does Tryz.prog 122 (ixSpecLn T) := by
 refine dA hT Tryz.func122 rfl (by decide +kernel) ?_
 rintro args h Q ⟨g, p, l, hg, hl, rfl, hq⟩
 refine ⟨by simp [Tryz.f122], ?_⟩
 simp -dsimp only [Vm.G, zA, zB, zC, zD, zE, zF, q122.1]
 refine awp_loop (fun m s h' => ∃ i : Nat, i + m = l.length ∧ h' = h ∧ (∀ j (hj : j < l.length), j < i → p l[j] = false) ∧ s = mk [(0, .sl 4 (l.map lnAv)), (1, .clo g []), (7, .v (.int .i64 l.length)), (8, .v (.int .i64 i))])
   l.length _ (le_mk _ ?_) ⟨0, by omega, rfl, fun j _ hj => by omega, rfl⟩ ?_
 · simp only [Vm.D]
   try simp -dsimp only [Vm.G, zA, zB, zC, zD, zE, zF, q122.1]
   repeat' first | exact .refl _ | exact .nil _ _ _ (by decide) | refine ⟨?_, ?_⟩
 · rintro m s h' ⟨i, hi, rfl, hb, rfl⟩
   simp -dsimp only [Vm.G, zA, zB, zC, zD, zE, zF, q122.1]
   refine cond_intro (fun hcc => ?_) (fun hcc => ?_)
   · have hlt : i < l.length := by have := of_decide_eq_true hcc; omega
     obtain ⟨x, hx⟩ : ∃ x, l[i] = x := ⟨_, rfl⟩
     have hw := hwN i (by omega)
     simp -dsimp only [Vm.G, zA, zB, zC, zD, zE, zF, q122.1]
     refine idx_map lnAv l i hlt ?_
     simp only [hx, lnAv, lnCells]
     simp -dsimp only [Vm.G, zA, zB, zC, zD, zE, zF, q122.1, AV.cells]
     refine call_one (S := askLn p) hg _ GaL.rfl ⟨x, rfl, ?_⟩
     cases hp : p x
     · simp -dsimp only [Vm.G, zA, zB, zC, zD, zE, zF, q122.1]
       refine kept_intro ⟨l.length - (i + 1), by omega, _, le_mk [(0, .sl 4 (l.map lnAv)), (1, .clo g []), (7, .v (.int .i64 l.length)), (8, .v (.int .i64 (i + 1 : Nat)))] ?_, i + 1, by omega, rfl, fun j hj hj2 => ?_, rfl⟩
       · simp only [Vm.D, hw]
         try simp -dsimp only [Vm.G, zA, zB, zC, zD, zE, zF, q122.1, hw]
         repeat' first | exact .refl _ | exact .nil _ _ _ (by decide) | refine ⟨?_, ?_⟩
       · by_cases hji : j = i
         · subst hji; rw [hx]; exact hp
         · exact hb j hj (by omega)
     · simp -dsimp only [Vm.G, zA, zB, zC, zD, zE, zF, q122.1]
       exact hq _ ⟨fun _ => by omega, fun _ => List.any_eq_true.2 ⟨x, hx ▸ zUb hlt, hp⟩⟩
   · have hge : ¬ i < l.length := by have := of_decide_eq_false hcc; omega
     simp -dsimp only [Vm.G, zA, zB, zC, zD, zE, zF, q122.1]
     refine hq _ ⟨fun hm => ?_, fun h0 => by omega⟩
     obtain ⟨x, hx, hp⟩ := List.any_eq_true.1 hm
     obtain ⟨j, hj, rfl⟩ := List.getElem_of_mem hx
     rw [hb j hj (by omega)] at hp; cases hp
def hasSpecLn (T : Tab) : Vm.Spec := fun args h Q => ∃ (g : FuncId) (p : Ln → Bool) (l : List Ln), T g = some (askLn p) ∧ l.length ≤ 9223372036854775807 ∧ args = [.sl 4 (l.map lnAv), .clo g []] ∧ Q (.v (.bool (l.any p))) h
theorem does_hasLn {T : Tab} (hT : Good T) : Does Tryz.prog 70 (hasSpecLn T) := by
 refine dA (good_cons (does_ixLn hT) good_nil) Tryz.func70 rfl (by decide +kernel) ?_
 rintro args h Q ⟨g, p, l, hg, hl, rfl, hq⟩
 refine ⟨by simp [Tryz.f70], ?_⟩
 simp -dsimp only [Vm.G, zA, zB, zC, zD, zE, zF, q70.1]
 refine call_one (S := ixSpecLn T) rfl _ GaL.rfl ⟨g, p, l, hg, hl, rfl, fun i hi => ?_⟩
 have e : decide (i ≥ 0) = l.any p := by
   cases hx : l.any p
   · rw [hx] at hi; exact decide_eq_false fun h0 => by have := hi.2 h0; cases this
   · exact decide_eq_true (hi.1 hx)
 simp -dsimp only [Vm.G, zA, zB, zC, zD, zE, zF, q70.1, e]
 exact hq
def rightA (n : Int) : Bool := decide (1 ≤ n) && decide (n ≤ 9007199254740992)
theorem does_amtRight : Does Tryz.prog 69 (predSpec rightA) := by
 refine dA good_nil Tryz.func69 rfl (by decide +kernel) ?_
 rintro args h Q ⟨n, rfl, hq⟩
 refine ⟨by simp [Tryz.f69], ?_⟩
 unfold rightA at hq
 simp -dsimp only [Vm.G, zA, zB, zC, zD, zE, zF, q69.1]
 cases c1 : decide (1 ≤ n)
 · rw [c1] at hq
   simp -dsimp only [Vm.G, zA, zB, zC, zD, zE, zF, q69.1]
   exact hq
 · rw [c1] at hq
   simp -dsimp only [Vm.G, zA, zB, zC, zD, zE, zF, q69.1]
   exact hq
def wrongL (x : Ln) : Bool := !rightA x.amt
theorem does_wrongL : Does Tryz.prog 68 (askLn wrongL) := by
 refine dA (good_cons does_amtRight good_nil) Tryz.func68 rfl (by decide +kernel) ?_
 rintro args h Q ⟨x, rfl, hq⟩
 refine ⟨by simp [Tryz.f68], ?_⟩
 unfold wrongL at hq
 simp only [lnAv, lnCells]
 simp -dsimp only [Vm.G, zA, zB, zC, zD, zE, zF, q68.1]
 refine call_one (S := predSpec rightA) rfl _ GaL.rfl ⟨x.amt, rfl, ?_⟩
 simp -dsimp only [Vm.G, zA, zB, zC, zD, zE, zF, q68.1]
 exact hq
def wrongT : Tab := tab [(68, askLn wrongL)]
theorem good_wrongT : Good wrongT := good_cons does_wrongL good_nil
def preCheck (l : List Ln) : Int := if l.length = 0 ∨ 6 < l.length ∨ l.any wrongL = true then 1 else 0
def preCheckSpec : Vm.Spec := fun args h Q => ∃ l : List Ln, l.length ≤ 9223372036854775807 ∧ args = [.sl 4 (l.map lnAv)] ∧ Q (.v (.int .i64 (preCheck l))) h
theorem does_preCheck : Does Tryz.prog 29 preCheckSpec := by
 refine dA (good_cons (does_hasLn good_wrongT) good_nil) Tryz.func29 rfl (by decide +kernel) ?_
 rintro args h Q ⟨l, hl, rfl, hq⟩
 refine ⟨by simp [Tryz.f29], ?_⟩
 unfold preCheck at hq
 simp -dsimp only [Vm.G, zA, zB, zC, zD, zE, zF, q29.1]
 cases c0 : ((l.length : Int) == 0)
 · have d0 : ¬ l.length = 0 := by intro e; rw [e] at c0; simp at c0
   simp -dsimp only [Vm.G, zA, zB, zC, zD, zE, zF, q29.1]
   cases c6 : decide ((l.length : Int) > 6)
   · have d6 : ¬ 6 < l.length := by have := of_decide_eq_false c6; omega
     simp -dsimp only [Vm.G, zA, zB, zC, zD, zE, zF, q29.1]
     refine call_one (S := hasSpecLn wrongT) rfl _ GaL.rfl ⟨68, wrongL, l, rfl, hl, rfl, ?_⟩
     cases ca : l.any wrongL
     · rw [ca, if_neg (by simp [d0, d6])] at hq
       simp -dsimp only [Vm.G, zA, zB, zC, zD, zE, zF, q29.1]
       exact hq
     · rw [ca, if_pos (.inr (.inr rfl))] at hq
       simp -dsimp only [Vm.G, zA, zB, zC, zD, zE, zF, q29.1]
       exact hq
   · have d6 : 6 < l.length := by have := of_decide_eq_true c6; omega
     rw [if_pos (.inr (.inl d6))] at hq
     simp -dsimp only [Vm.G, zA, zB, zC, zD, zE, zF, q29.1]
     exact hq
 · have d0 : l.length = 0 := by have : (l.length : Int) = 0 := by simpa using c0
                                omega
   rw [if_pos (.inl d0)] at hq
   simp -dsimp only [Vm.G, zA, zB, zC, zD, zE, zF, q29.1]
   exact hq
structure Dl where
 node : Int
 orig : Int
 liq : Int
 can : Int
def dlCells (x : Dl) : List AV := [.v (.int .i64 x.node), .v (.int .i64 x.orig), .v (.int .i64 x.liq), .v (.int .i64 x.can)]
def dlAv (x : Dl) : AV := .agg (dlCells x)
def Dl.ok (x : Dl) : Prop := I64 x.node ∧ I64 x.orig ∧ I64 x.liq ∧ I64 x.can
structure Dc where
 id : Int
 kind : Int
 year : Int
 frm : Int
 lines : Int
def dcCells (d : Dc) : List AV := [.v (.int .i64 d.id), .v (.int .i64 d.kind), .v (.int .i64 d.year), .v (.int .i64 d.frm), .v (.int .i64 d.lines)]
def Dc.ok (d : Dc) : Prop := I64 d.id ∧ I64 d.kind ∧ I64 d.year ∧ I64 d.frm ∧ I64 d.lines
def dlK (id i : Int) : List UInt8 := keyOf 76 [id, i]
def dlV (x : Dl) : List UInt8 := packOf [x.node, x.orig, x.liq, x.can]
def dcK (id : Int) : List UInt8 := keyOf 68 [id]
def dcV (d : Dc) : List UInt8 := packOf [d.kind, d.year, d.frm, d.lines]
theorem dlK_length (id i : Int) : (dlK id i).length = 9 := by simp [dlK, keyOf, packs, be_length]
theorem dcK_length (id : Int) : (dcK id).length = 5 := by simp [dcK, keyOf, packs, be_length]
theorem dlV_length (x : Dl) : (dlV x).length = 32 := by simp [dlV, packOf, packs, be_length]
theorem dcV_length (d : Dc) : (dcV d).length = 32 := by simp [dcV, packOf, packs, be_length]
theorem right_dl (id i : Int) (x : Dl) : rightKV (dlK id i) (dlV x) = true := by simp [rightKV, dlK_length, dlV_length]
theorem right_dc (id : Int) (d : Dc) : rightKV (dcK id) (dcV d) = true := by simp [rightKV, dcK_length, dcV_length]
theorem does_docLines : Does Tryz.prog 143 (tabSpec 76 2 4) := by
 refine dA good_nil Tryz.func143 rfl (by decide +kernel) ?_
 rintro args h Q ⟨rfl, hq⟩
 refine ⟨by simp [Tryz.f143], ?_⟩
 simp -dsimp only [Vm.G, zA, zB, zC, zD, zE, zF, q143.1]
 exact hq
theorem does_documents : Does Tryz.prog 144 (tabSpec 68 1 4) := by
 refine dA good_nil Tryz.func144 rfl (by decide +kernel) ?_
 rintro args h Q ⟨rfl, hq⟩
 refine ⟨by simp [Tryz.f144], ?_⟩
 simp -dsimp only [Vm.G, zA, zB, zC, zD, zE, zF, q144.1]
 exact hq
def rdlSpec : Vm.Spec := fun args h Q => ∃ (id i : Int) (x : Dl), I64 id ∧ I64 i ∧ x.ok ∧ args = [.v (.int .i64 id), .v (.int .i64 i), dlAv x] ∧ Q (.agg [.sl 1 ((dlK id i).map encB), .sl 1 ((dlV x).map encB)]) h
theorem does_recDl : Does Tryz.prog 87 rdlSpec := by
 refine dA (good_cons does_docLines (good_cons does_pair good_nil)) Tryz.func87 rfl (by decide +kernel) ?_
 rintro args h Q ⟨id, i, x, hid, hi, ⟨o1, o2, o3, o4⟩, rfl, hq⟩
 refine ⟨by simp [Tryz.f87], ?_⟩
 simp only [dlAv, dlCells]
 simp -dsimp only [Vm.G, zA, zB, zC, zD, zE, zF, q87.1]
 refine draw_cont [5] (.take 1 (.take 2 (.take 3 (.take 4 (.take 5 (.take 6 (.take 7 (.take 8 (.take 9 (.take 10 (.alt 0 (.alt 11 (.alt 12 (.alt 13 (.done) .stop) .stop) .stop) (.alt 11 (.alt 0 (.alt 12 (.alt 13 (.done) .stop) .stop) .stop) (.stop))))))))))))) (fun s h2 => h2 = h ∧ s 6 = .box [.sl 1 ((dlK id i).map encB), .sl 1 ((dlV x).map encB)]) (by kernel_rfl) (by kernel_rfl) (by kernel_rfl) (by decide) ?_ ?_
 · have hm : ∀ m ∈ [id, i, x.node, x.orig, x.liq, x.can], I64 m := fun m hm => by
     simp only [zOa, zYa, or_false] at hm
     rcases hm with rfl | rfl | rfl | rfl | rfl | rfl <;> assumption
   have e1 : keyOf 76 (([id, i, x.node, x.orig, x.liq, x.can] : List Int).take 2) = dlK id i := rfl
   have e2 : packOf (([id, i, x.node, x.orig, x.liq, x.can] : List Int).drop 2) = dlV x := rfl
   repeat' first
     | with_reducible exact True.intro
     | simp -dsimp only [Vm.G, zA, zB, zC, zD, zE, zF, q87.1, e1, e2]
     | refine call_one (S := tabSpec 76 2 4) rfl _ GaL.rfl ⟨rfl, ?_⟩
     | refine call_one (S := pairSpec) rfl _ GaL.rfl ⟨76, 2, 4, [id, i, x.node, x.orig, x.liq, x.can], by simp, by simp, hm, rfl, ?_⟩
     | refine bs_intro zr3 (by decide) (by decide) rfl rfl (by simp [solid, AV.cells]) ?_
     | refine tree_alt ?_ ?_
     | repeat' first | rfl | exact True.intro | refine And.intro ?_ ?_
 · rintro s h2 ⟨rfl, e6⟩
   simp -dsimp only [Vm.G, zA, zB, zC, zD, zE, zF, q87.1, e6]
   exact hq
def rdcSpec : Vm.Spec := fun args h Q => ∃ d : Dc, d.ok ∧ args = [.agg (dcCells d)] ∧ Q (.agg [.sl 1 ((dcK d.id).map encB), .sl 1 ((dcV d).map encB)]) h
theorem does_recDc : Does Tryz.prog 88 rdcSpec := by
 refine dA (good_cons does_documents (good_cons does_pair good_nil)) Tryz.func88 rfl (by decide +kernel) ?_
 rintro args h Q ⟨d, ⟨o1, o2, o3, o4, o5⟩, rfl, hq⟩
 refine ⟨by simp [Tryz.f88], ?_⟩
 simp only [dcCells]
 simp -dsimp only [Vm.G, zA, zB, zC, zD, zE, zF, q88.1]
 refine draw_cont [1] (.take 1 (.take 2 (.take 3 (.take 4 (.take 5 (.take 6 (.take 7 (.take 8 (.take 9 (.take 10 (.alt 0 (.alt 11 (.alt 12 (.alt 13 (.done) .stop) .stop) .stop) (.alt 11 (.alt 0 (.alt 12 (.alt 13 (.done) .stop) .stop) .stop) (.stop))))))))))))) (fun s h2 => h2 = h ∧ s 2 = .box [.sl 1 ((dcK d.id).map encB), .sl 1 ((dcV d).map encB)]) (by kernel_rfl) (by kernel_rfl) (by kernel_rfl) (by decide) ?_ ?_
 · have hm : ∀ m ∈ [d.id, d.kind, d.year, d.frm, d.lines], I64 m := fun m hm => by
     simp only [zOa, zYa, or_false] at hm
     rcases hm with rfl | rfl | rfl | rfl | rfl <;> assumption
   have e1 : keyOf 68 (([d.id, d.kind, d.year, d.frm, d.lines] : List Int).take 1) = dcK d.id := rfl
   have e2 : packOf (([d.id, d.kind, d.year, d.frm, d.lines] : List Int).drop 1) = dcV d := rfl
   repeat' first
     | with_reducible exact True.intro
     | simp -dsimp only [Vm.G, zA, zB, zC, zD, zE, zF, q88.1, e1, e2]
     | refine call_one (S := tabSpec 68 1 4) rfl _ GaL.rfl ⟨rfl, ?_⟩
     | refine call_one (S := pairSpec) rfl _ GaL.rfl ⟨68, 1, 4, [d.id, d.kind, d.year, d.frm, d.lines], by simp, by simp, hm, rfl, ?_⟩
     | refine bs_intro zr3 (by decide) (by decide) rfl rfl (by simp [solid, AV.cells]) ?_
     | refine tree_alt ?_ ?_
     | repeat' first | rfl | exact True.intro | refine And.intro ?_ ?_
 · rintro s h2 ⟨rfl, e2⟩
   simp -dsimp only [Vm.G, zA, zB, zC, zD, zE, zF, q88.1, e2]
   exact hq
def dsetSpec : Vm.Spec := fun args h Q => ∃ (V : VId) (f : Fun) (k v : List UInt8), args = [.agg [.ptr V.iv 0], .agg [.sl 1 (k.map encB), .sl 1 (v.map encB)]] ∧ rightKV k v = true ∧ isView h V f ∧ ∀ h', isView h' V (upd f k (some v)) → Same h h' [V.ic] → Q (.v (.int .i64 0)) h'
theorem does_dset : Does Tryz.prog 86 dsetSpec := by
 refine dA (good_cons does_vput good_nil) Tryz.func86 rfl (by decide +kernel) ?_
 rintro args h Q ⟨V, f, k, v, rfl, hr, hV, hq⟩
 refine ⟨by simp [Tryz.f86], ?_⟩
 simp -dsimp only [Vm.G, zA, zB, zC, zD, zE, zF, q86.1]
 refine call_one (S := vputSpec) rfl _ GaL.rfl ⟨V, f, k, v, rfl, hV, fun _ h' g1 g2 => ?_, fun hc => by rw [hr] at hc; cases hc⟩
 simp -dsimp only [Vm.G, zA, zB, zC, zD, zE, zF, q86.1]
 exact hq h' g1 g2
def putLines (id : Int) : Nat → List Dl → Fun → Fun
 | _, [], f => f
 | i, x :: r, f => putLines id (i + 1) r (upd f (dlK id i) (some (dlV x)))
def docsF (f : Fun) (id : Int) (d : Dc) (l : List Dl) : Fun := upd (putLines id 0 l (upd f (seqKey 2) (some (be 8 id)))) (dcK id) (some (dcV { d with id := id, lines := l.length }))
def docsPut (f : Fun) (d : Dc) (l : List Dl) : Fun × Int × Int :=
 if l.length = 0 ∨ 6 < l.length then (f, 0, 1)
 else if readOf f (seqKey 2) < 0 ∨ 4294967294 < readOf f (seqKey 2) then (f, 0, 9)
 else (docsF f (readOf f (seqKey 2) + 1) d l, readOf f (seqKey 2) + 1, 0)
def docsPutSpec : Vm.Spec := fun args h Q => ∃ (V : VId) (f : Fun) (d : Dc) (l : List Dl), d.ok ∧ (∀ x ∈ l, x.ok) ∧ args = [.ptr V.iv 0, .agg (dcCells d), .sl 4 (l.map dlAv)] ∧ isView h V f ∧
 ∀ h', isView h' V (docsPut f d l).1 → Same h h' [V.ic] → Q (.tup [.v (.int .i64 (docsPut f d l).2.1), .v (.int .i64 (docsPut f d l).2.2)]) h'
theorem does_docsPut : Does Tryz.prog 42 docsPutSpec := by
 refine dA (good_cons does_seqNext (good_cons does_recDl (good_cons does_dset (good_cons does_recDc good_nil)))) Tryz.func42 rfl (by decide +kernel) ?_
 rintro args h Q ⟨V, f, d, l, hd, hx, rfl, hV, hq⟩
 refine ⟨by simp [Tryz.f42], ?_⟩
 unfold docsPut at hq
 simp only [dcCells]
 simp -dsimp only [Vm.G, zA, zB, zC, zD, zE, zF, q42.1]
 cases c0 : ((l.length : Int) == 0)
 · have d0 : ¬ l.length = 0 := by intro e; rw [e] at c0; simp at c0
   simp -dsimp only [Vm.G, zA, zB, zC, zD, zE, zF, q42.1]
   cases c6 : decide ((l.length : Int) > 6)
   · have d6 : ¬ 6 < l.length := by have := of_decide_eq_false c6; omega
     have hr := readOf_range f (seqKey 2)
     simp only [if_neg (show ¬ (l.length = 0 ∨ 6 < l.length) by omega)] at hq
     simp -dsimp only [Vm.G, zA, zB, zC, zD, zE, zF, q42.1]
     refine call_one (S := seqNextSpec) rfl _ GaL.rfl ⟨V, f, 2, rfl, hV, fun hr => ?_, fun hn h1 g1 g2 => ?_⟩
     · simp only [if_pos hr] at hq
       simp -dsimp only [Vm.G, zA, zB, zC, zD, zE, zF, q42.1]
       exact hq h hV (.refl _ _)
     · simp only [if_neg hn] at hq
       unfold docsF at hq
       have hidr : I64 (readOf f (seqKey 2) + 1) := by unfold I64 at hr ⊢; omega
       generalize readOf f (seqKey 2) + 1 = id at hq g1 hidr ⊢
       generalize upd f (seqKey 2) (some (be 8 id)) = f1 at hq g1
       simp -dsimp only [Vm.G, zA, zB, zC, zD, zE, zF, q42.1]
       refine awp_loop (fun m s h' => ∃ (i : Nat) (g : Fun) (s10 : AV), i + m = l.length ∧ isView h' V g ∧ Same h h' [V.ic] ∧ putLines id i (l.drop i) g = putLines id 0 l f1 ∧ (s10 = .box [.ptr V.iv 0] ∨ s10 = .eptr [.ptr V.iv 0]) ∧ s = mk [(2, .sl 4 (l.map dlAv)), (4, .box [.v (.int .i64 d.id), .v (.int .i64 d.kind), .v (.int .i64 d.year), .v (.int .i64 d.frm), .v (.int .i64 d.lines)]), (8, .v (.int .i64 id)), (10, s10), (33, .sl 4 (l.map dlAv)), (34, .v (.int .i64 l.length)), (35, .v (.int .i64 (i : Nat)))])
         l.length _ (le_mk _ ?_) ⟨0, f1, .box [.ptr V.iv 0], by omega, g1, g2, rfl, .inl rfl, rfl⟩ ?_
       · simp only [Vm.D]
         try simp -dsimp only [Vm.G, zA, zB, zC, zD, zE, zF, q42.1]
         repeat' first | exact .refl _ | exact .nil _ _ _ (by decide) | refine ⟨?_, ?_⟩
       · clear g1 g2 hV
         rintro m s h' ⟨i, g, s10, hi, hV, hsm, hp, h10, rfl⟩
         simp -dsimp only [Vm.G, zA, zB, zC, zD, zE, zF, q42.1]
         refine cond_intro (fun hcc => ?_) (fun hcc => ?_)
         · have hlt : i < l.length := by have := of_decide_eq_true hcc; omega
           have hw := hwN i (by omega)
           have hok := hx l[i] (zUb hlt)
           rw [List.drop_eq_getElem_cons hlt] at hp
           simp -dsimp only [Vm.G, zA, zB, zC, zD, zE, zF, q42.1]
           refine idx_map dlAv l i hlt ?_
           generalize l[i] = x at hok hp
           have hii : I64 (i : Int) := by unfold I64; omega
           simp only [dlAv, dlCells]
           simp -dsimp only [Vm.G, zA, zB, zC, zD, zE, zF, q42.1, AV.cells]
           rcases h10 with rfl | rfl
           · refine draw_cont [10, 12] (.take 0 (.take 1 (.take 2 (.take 3 (.alt 4 (.alt 5 (.alt 6 (.done) .stop) .stop) .stop))))) (fun s h2 => isView h2 V (upd g (dlK id i) (some (dlV x))) ∧ Same h' h2 [V.ic] ∧ s 13 = .v (.int .i64 0) ∧ s 2 = .sl 4 (l.map dlAv) ∧ s 4 = .box [.v (.int .i64 d.id), .v (.int .i64 d.kind), .v (.int .i64 d.year), .v (.int .i64 d.frm), .v (.int .i64 d.lines)] ∧ s 8 = .v (.int .i64 id) ∧ s 10 = .eptr [.ptr V.iv 0] ∧ s 33 = .sl 4 (l.map dlAv) ∧ s 34 = .v (.int .i64 l.length) ∧ s 35 = .v (.int .i64 i)) (by kernel_rfl) (by kernel_rfl) (by kernel_rfl) (by decide) ?_ ?_
             · simp -dsimp only [Vm.G, zA, zB, zC, zD, zE, zF, q42.1]
               refine call_one (S := rdlSpec) rfl _ GaL.rfl ⟨id, i, x, hidr, hii, hok, rfl, ?_⟩
               simp -dsimp only [Vm.G, zA, zB, zC, zD, zE, zF, q42.1]
               refine call_one (S := dsetSpec) rfl _ GaL.rfl ⟨V, g, dlK id i, dlV x, rfl, right_dl id i x, hV, fun h2 g1 g2 => ?_⟩
               simp -dsimp only [Vm.G, zA, zB, zC, zD, zE, zF, q42.1]
               refine ⟨g1, g2, ?_⟩
               repeat' first | rfl | exact True.intro | refine And.intro ?_ ?_
             · rintro s h2 ⟨g1, g2, e13, e2, e4, e8, e10, e33, e34, e35⟩
               simp -dsimp only [Vm.G, zA, zB, zC, zD, zE, zF, q42.1, e13, e2, e4, e8, e10, e33, e34, e35]
               refine kept_intro ⟨l.length - (i + 1), by omega, _, le_mk [(2, .sl 4 (l.map dlAv)), (4, .box [.v (.int .i64 d.id), .v (.int .i64 d.kind), .v (.int .i64 d.year), .v (.int .i64 d.frm), .v (.int .i64 d.lines)]), (8, .v (.int .i64 id)), (10, .eptr [.ptr V.iv 0]), (33, .sl 4 (l.map dlAv)), (34, .v (.int .i64 l.length)), (35, .v (.int .i64 (i + 1 : Nat)))] ?_, i + 1, _, _, by omega, g1, hsm.trans g2, hp, .inr rfl, rfl⟩
               simp only [Vm.D, hw, e2, e4, e8, e10, e33, e34, e35]
               try simp -dsimp only [Vm.G, zA, zB, zC, zD, zE, zF, q42.1, hw, e2, e4, e8, e10, e33, e34, e35]
               repeat' first | exact .refl _ | exact .nil _ _ _ (by decide) | refine ⟨?_, ?_⟩
           · refine draw_cont [12] (.take 0 (.take 1 (.take 2 (.take 3 (.alt 4 (.alt 5 (.alt 6 (.done) .stop) .stop) .stop))))) (fun s h2 => isView h2 V (upd g (dlK id i) (some (dlV x))) ∧ Same h' h2 [V.ic] ∧ s 13 = .v (.int .i64 0) ∧ s 2 = .sl 4 (l.map dlAv) ∧ s 4 = .box [.v (.int .i64 d.id), .v (.int .i64 d.kind), .v (.int .i64 d.year), .v (.int .i64 d.frm), .v (.int .i64 d.lines)] ∧ s 8 = .v (.int .i64 id) ∧ s 10 = .eptr [.ptr V.iv 0] ∧ s 33 = .sl 4 (l.map dlAv) ∧ s 34 = .v (.int .i64 l.length) ∧ s 35 = .v (.int .i64 i)) (by kernel_rfl) (by kernel_rfl) (by kernel_rfl) (by decide) ?_ ?_
             · simp -dsimp only [Vm.G, zA, zB, zC, zD, zE, zF, q42.1]
               refine call_one (S := rdlSpec) rfl _ GaL.rfl ⟨id, i, x, hidr, hii, hok, rfl, ?_⟩
               simp -dsimp only [Vm.G, zA, zB, zC, zD, zE, zF, q42.1]
               refine call_one (S := dsetSpec) rfl _ GaL.rfl ⟨V, g, dlK id i, dlV x, rfl, right_dl id i x, hV, fun h2 g1 g2 => ?_⟩
               simp -dsimp only [Vm.G, zA, zB, zC, zD, zE, zF, q42.1]
               refine ⟨g1, g2, ?_⟩
               repeat' first | rfl | exact True.intro | refine And.intro ?_ ?_
             · rintro s h2 ⟨g1, g2, e13, e2, e4, e8, e10, e33, e34, e35⟩
               simp -dsimp only [Vm.G, zA, zB, zC, zD, zE, zF, q42.1, e13, e2, e4, e8, e10, e33, e34, e35]
               refine kept_intro ⟨l.length - (i + 1), by omega, _, le_mk [(2, .sl 4 (l.map dlAv)), (4, .box [.v (.int .i64 d.id), .v (.int .i64 d.kind), .v (.int .i64 d.year), .v (.int .i64 d.frm), .v (.int .i64 d.lines)]), (8, .v (.int .i64 id)), (10, .eptr [.ptr V.iv 0]), (33, .sl 4 (l.map dlAv)), (34, .v (.int .i64 l.length)), (35, .v (.int .i64 (i + 1 : Nat)))] ?_, i + 1, _, _, by omega, g1, hsm.trans g2, hp, .inr rfl, rfl⟩
               simp only [Vm.D, hw, e2, e4, e8, e10, e33, e34, e35]
               try simp -dsimp only [Vm.G, zA, zB, zC, zD, zE, zF, q42.1, hw, e2, e4, e8, e10, e33, e34, e35]
               repeat' first | exact .refl _ | exact .nil _ _ _ (by decide) | refine ⟨?_, ?_⟩
         · have hge : ¬ i < l.length := by have := of_decide_eq_false hcc; omega
           rw [List.drop_of_length_le (by omega)] at hp
           have hp : g = putLines id 0 l f1 := hp
           rw [← hp] at hq
           obtain ⟨o1, o2, o3, o4, o5⟩ := hd
           have hdok : ({ d with id := id, lines := (l.length : Int) } : Dc).ok := ⟨hidr, o2, o3, o4, by unfold I64; show -9223372036854775808 ≤ (l.length : Int) ∧ (l.length : Int) ≤ _; omega⟩
           simp -dsimp only [Vm.G, zA, zB, zC, zD, zE, zF, q42.1]
           have fin : ∀ {s : Slots}, True := fun {_} => trivial
           rcases h10 with rfl | rfl
           · refine draw_cont [10, 4] (.take 0 (.take 1 (.alt 2 (.alt 3 (.alt 4 (.done) .stop) .stop) .stop))) (fun s h2 => isView h2 V (upd g (dcK id) (some (dcV { d with id := id, lines := l.length }))) ∧ Same h' h2 [V.ic] ∧ s 14 = .v (.int .i64 0) ∧ s 8 = .v (.int .i64 id)) (by kernel_rfl) (by kernel_rfl) (by kernel_rfl) (by decide) ?_ ?_
             · simp -dsimp only [Vm.G, zA, zB, zC, zD, zE, zF, q42.1]
               refine call_one (S := rdcSpec) rfl _ GaL.rfl ⟨{ d with id := id, lines := l.length }, hdok, rfl, ?_⟩
               simp -dsimp only [Vm.G, zA, zB, zC, zD, zE, zF, q42.1]
               refine call_one (S := dsetSpec) rfl _ GaL.rfl ⟨V, g, dcK id, dcV { d with id := id, lines := l.length }, rfl, right_dc id _, hV, fun h2 g1 g2 => ?_⟩
               simp -dsimp only [Vm.G, zA, zB, zC, zD, zE, zF, q42.1]
               refine ⟨g1, g2, ?_⟩
               repeat' first | rfl | exact True.intro | refine And.intro ?_ ?_
             · rintro s h2 ⟨g1, g2, e14, e8⟩
               simp -dsimp only [Vm.G, zA, zB, zC, zD, zE, zF, q42.1, e14, e8]
               exact hq h2 g1 (hsm.trans g2)
           · refine draw_cont [4] (.take 0 (.take 1 (.alt 2 (.alt 3 (.alt 4 (.done) .stop) .stop) .stop))) (fun s h2 => isView h2 V (upd g (dcK id) (some (dcV { d with id := id, lines := l.length }))) ∧ Same h' h2 [V.ic] ∧ s 14 = .v (.int .i64 0) ∧ s 8 = .v (.int .i64 id)) (by kernel_rfl) (by kernel_rfl) (by kernel_rfl) (by decide) ?_ ?_
             · simp -dsimp only [Vm.G, zA, zB, zC, zD, zE, zF, q42.1]
               refine call_one (S := rdcSpec) rfl _ GaL.rfl ⟨{ d with id := id, lines := l.length }, hdok, rfl, ?_⟩
               simp -dsimp only [Vm.G, zA, zB, zC, zD, zE, zF, q42.1]
               refine call_one (S := dsetSpec) rfl _ GaL.rfl ⟨V, g, dcK id, dcV { d with id := id, lines := l.length }, rfl, right_dc id _, hV, fun h2 g1 g2 => ?_⟩
               simp -dsimp only [Vm.G, zA, zB, zC, zD, zE, zF, q42.1]
               refine ⟨g1, g2, ?_⟩
               repeat' first | rfl | exact True.intro | refine And.intro ?_ ?_
             · rintro s h2 ⟨g1, g2, e14, e8⟩
               simp -dsimp only [Vm.G, zA, zB, zC, zD, zE, zF, q42.1, e14, e8]
               exact hq h2 g1 (hsm.trans g2)
   · have d6 : 6 < l.length := by have := of_decide_eq_true c6; omega
     simp only [if_pos (show l.length = 0 ∨ 6 < l.length from .inr d6)] at hq
     simp -dsimp only [Vm.G, zA, zB, zC, zD, zE, zF, q42.1]
     exact hq h hV (.refl _ _)
 · have d0 : l.length = 0 := by
     have : (l.length : Int) = 0 := by simpa using c0
     omega
   simp only [if_pos (show l.length = 0 ∨ 6 < l.length from .inl d0)] at hq
   simp -dsimp only [Vm.G, zA, zB, zC, zD, zE, zF, q42.1]
   exact hq h hV (.refl _ _)
def ownL (l : List Ln) : List Dl := l.map fun x => ⟨x.node, x.amt, 0, 0⟩
def chargeL (year : Int) : List Dl → Fun → Bool → Fun × Bool × Int
 | [], f, w => (f, w, 0)
 | x :: r, f, w => if (chargeOf f year x.node ⟨x.orig, 0, 0⟩).2.2 ≠ 0 then ((chargeOf f year x.node ⟨x.orig, 0, 0⟩).1, false, (chargeOf f year x.node ⟨x.orig, 0, 0⟩).2.2)
   else chargeL year r (chargeOf f year x.node ⟨x.orig, 0, 0⟩).1 (w || (chargeOf f year x.node ⟨x.orig, 0, 0⟩).2.1)
attribute [local irreducible] chargeOf chargeL docsPut
def Ln.ok (x : Ln) : Prop := I64 x.fund ∧ I64 x.obj ∧ I64 x.node ∧ I64 x.amt
end Go.Proofs.Lx
namespace Go.Proofs.Lx
open Go.Vm Go.RowKit
open Go.Sort (SWO flatK HoldsK)
def cmpI (a b : Int) : Int := if a < b then -1 else if a > b then 1 else 0
theorem cmpI_lt (a b : Int) : cmpI a b < 0 ↔ a < b := by
 unfold cmpI
 repeat' split
 all_goals simp
 all_goals omega
theorem cmpI_eq (a b : Int) (h1 : ¬ cmpI a b < 0) (h2 : ¬ cmpI b a < 0) : a = b := by
 rw [cmpI_lt] at h1 h2; omega
theorem cmpI_asymm (a b : Int) (h : cmpI a b < 0) : ¬ cmpI b a < 0 := by
 rw [cmpI_lt] at h ⊢; omega
theorem swo_ints {α : Type} (key : α → Int) : SWO (ltOf fun x y => cmpI (key x) (key y)) := by
 refine ⟨fun x => by simp [ltOf, cmpI], fun x y z h1 h2 => ?_, fun x y z h1 h2 => ?_⟩
 · simp only [ltOf, decide_eq_true_eq, cmpI_lt] at h1 h2 ⊢; omega
 · simp only [ltOf, decide_eq_false_iff_not, cmpI_lt] at h1 h2 ⊢; omega
theorem isNaN_calls (W : World) (a : Int) : Calls Tryz.prog 326 #[.int .i64 a] W fun e w' => e = .returned (.bool false) ∧ w' = W := by
 have hne : (a != a) = false := by simp
 go_enter Tryz.func326, Tryz.ntmps326
 go_wp2
 go_ret
 simp [hne]
theorem cmpI_calls (W : World) (a b : Int) : Calls Tryz.prog 283 #[.int .i64 a, .int .i64 b] W fun e w' => e = .returned (.int .i64 (cmpI a b)) ∧ w' = W := by
 have hn := fun a => isNaN_calls W a
 unfold cmpI
 go_enter Tryz.func283, Tryz.ntmps283
 go_wp2_with (go_at_call 326; refine (hn _).mono ?_; rintro e w' ⟨rfl, rfl⟩)
 all_goals go_ret
 all_goals first | exact ⟨rfl, rfl⟩ | trace_state
theorem funds1_calls (W : World) (x1 x2 x3 y1 y2 y3 : Value) (a b : Int) (o1 : x1.oneCell' = true) (o2 : x2.oneCell' = true) (o3 : x3.oneCell' = true) (o4 : y1.oneCell' = true) (o5 : y2.oneCell' = true) (o6 : y3.oneCell' = true) :
   Calls Tryz.prog 282 #[.agg #[.int .i64 a, x1, x2, x3], .agg #[.int .i64 b, y1, y2, y3]] W fun e w' => e = .returned (.int .i64 (cmpI a b)) ∧ ∃ q os', w' = Sort.grow (W.drewN q) os' := by
 have hcon := fun W' => cmpI_calls W' a b
 generalize cmpI a b = r at hcon ⊢
 go_enter Tryz.func282, Tryz.ntmps282
 go_wp2_with (go_at_call 283; refine (hcon _).mono ?_; rintro e w' ⟨rfl, rfl⟩)
 go_ret
 exact ⟨rfl, 0, _, by rw [Go.Sort.alloc_eq_grow, Go.Sort.alloc_eq_grow, Go.Sort.grow_grow]; rfl⟩
theorem sortW_heap4 {α : Type} [Inhabited α] (enc : α → List Value) (w : World) (b m : Nat) (dk : Array α) (os : Array Obj) :
   (∀ k, k < w.heap.size → k ≠ b → (sortWorldK enc 4 w b 0 m dk os).heap[k]? = w.heap[k]?) ∧ w.heap.size ≤ (sortWorldK enc 4 w b 0 m dk os).heap.size ∧
     ∀ vs e fr, w.heap[b]? = some (.cells vs e fr) → (sortWorldK enc 4 w b 0 m dk os).heap[b]? = some (.cells (Sort.putCells id 0 (flatK enc 4 dk) vs) e fr) := by
 have hs : (Sort.putRow id (Sort.ahead w m) b 0 (flatK enc 4 dk)).heap.size = w.heap.size := by simp [Sort.putRow, Sort.mapBlock, Sort.ahead]
 have hg : ∀ k, k < w.heap.size → (sortWorldK enc 4 w b 0 m dk os).heap[k]? = (w.heap.modify b (Sort.onCells (Sort.putCells id 0 (flatK enc 4 dk))))[k]? := fun k hk => by
   show ((Sort.putRow id (Sort.ahead w m) b 0 (flatK enc 4 dk)).heap ++ os)[k]? = _
   rw [Array.getElem?_append_left (by rw [hs]; exact hk)]; rfl
 refine ⟨fun k hk hne => ?_, ?_, fun vs e fr hb => ?_⟩
 · rw [hg k hk, Array.getElem?_modify, if_neg (fun e => hne e.symm)]
 · show w.heap.size ≤ ((Sort.putRow id (Sort.ahead w m) b 0 (flatK enc 4 dk)).heap ++ os).size
   rw [Array.size_append, hs]; omega
 · rw [hg b (lt_of_heap hb), Array.getElem?_modify, if_pos rfl, hb]; rfl
def sortLnSpec : Vm.Spec := fun args h Q => ∃ (l : List Ln) (h0 : Heap) (c e : Nat), args = [.osl h0.length 0 l.length c, .clo 282 []] ∧ h = h0 ++ [.row e (c * 4) (flat (l.map lnAv))] ∧ (l.map Ln.fund).Nodup ∧ l.length < 4611686018427387904 ∧ l.length ≤ c ∧
 ∀ l' : List Ln, l'.Perm l → l'.Pairwise (fun a b => cmpI a.fund b.fund < 0) → Q (.tup []) (h0 ++ [.row e (c * 4) (flat (l'.map lnAv))])
theorem flat_ln (l : List Ln) (i r : Nat) (hi : i < l.length) (hr : r < 4) : (flat (l.map lnAv))[i * 4 + r]? = (lnAv l[i]).cells[r]? :=
 flat_get (fun x hx => by obtain ⟨p, -, rfl⟩ := zTa.1 hx; rfl) (by rw [List.getElem?_map, zSa hi]; rfl) r hr
theorem does_sortLn : Does Tryz.prog 281 sortLnSpec := by
 refine ⟨⟨Tryz.f281, Tryz.func281, by kernel_rfl, by decide +kernel⟩, ?_⟩
 rintro args h Q ⟨l, h0, c, e, rfl, rfl, hnd, hln, hlc, hq⟩ w g vs hvs hrep hh hfr hlaid
 have hm : h0.length < g.n := by rw [← hh.n]; simp
 generalize hb : g.loc h0.length = b
 have hrow : RowE w g e (c * 4) (flat (l.map lnAv)) b := by
   have : ObjRep w g (.row e (c * 4) (flat (l.map lnAv))) (g.loc h0.length) := hh.obj h0.length _ (heap_last _ _)
   rw [hb] at this; exact this
 have hblt : b < w.heap.size := by rw [← hb]; exact hh.lt _ hm
 have hv0 : vs.getD 0 undef = .slice (some ⟨b, 0, none⟩) l.length c := by
   have := hrep 0 _ rfl
   generalize vs.getD 0 undef = v at this
   cases this with | osl => rw [hb]
 have hv1 : vs.getD 1 undef = .func (.func 282) #[] #[] := by
   have := hrep 1 _ rfl
   generalize vs.getD 1 undef = v at this
   cases this with | @clo _ _ cv hl hs => rw [Array.eq_empty_of_size_eq_zero (xs := cv) (by simpa using hl)]
 have hvs2 : vs = #[.slice (some ⟨b, 0, none⟩) l.length c, .func (.func 282) #[] #[]] := by
   have h2 : vs.size = 2 := hvs
   apply Array.ext
   · simpa using h2
   · intro i hi1 hi2
     have : i = 0 ∨ i = 1 := by omega
     rcases this with rfl | rfl
     · simpa [Array.getD, h2] using hv0
     · simpa [Array.getD, h2] using hv1
 subst hvs2
 -- what holds behind it, by where the cells went
 have fin : ∀ (w' : World) (l' : List Ln), l'.Perm l → l'.Pairwise (fun a b => cmpI a.fund b.fund < 0) → w'.os = w.os ∧ w'.tape = w.tape ∧ w'.output = w.output → w.heap.size ≤ w'.heap.size → (∀ k, k < w.heap.size → k ≠ b → w'.heap[k]? = w.heap[k]?) →
     (Keeps w g w' g → RowE w' g e (c * 4) (flat (l'.map lnAv)) b) →
     ∃ r h' g' v, Q r h' ∧ Ending.returned (.tuple #[]) = .returned v ∧ ResRep w' g' w.heap.size r v ∧ HeapRep w' g' h' ∧ Vm.Frame w g w' ∧
       g.n ≤ g'.n ∧ (∀ i, i < g.n → g'.loc i = g.loc i) ∧ (∀ b, b < w.heap.size → g'.pub b = g.pub b) ∧ (∀ i, i < g'.n → g.n ≤ i → w.heap.size ≤ g'.loc i) ∧ (∀ b, w'.heap.size ≤ b → g'.pub b = 0) := fun w' l' hp hs hw hsz hblk hrow' => by
   have hpub : g.pub b = 0 := by obtain ⟨-, -, -, -, h4, -⟩ := hrow; exact h4
   have hk : Keeps w g w' g := ⟨fun _ => zLa _, fun k j v hj hv => by
     have hkb : k ≠ b := fun e => by rw [e, hpub] at hj; omega
     have hkl : k < w.heap.size := by
       rcases zQb k w.heap.size with h | h
       · exact h
       · rw [hfr k h] at hj; omega
     rw [World.cell?_of_block (a := ⟨k, j, none⟩) (hblk k hkl hkb)]; exact hv, zLa _, fun _ _ => rfl⟩
   refine ⟨.tup [], h0 ++ [.row e (c * 4) (flat (l'.map lnAv))], g, .tuple #[], hq l' hp hs, rfl, .tup rfl (fun j u hu => by simp at hu), ?_, ?_, zLa _, fun _ _ => rfl, fun _ _ => rfl, fun i hi h1 => by omega, fun k hk' => hfr k (Nat.le_trans hsz hk')⟩
   · refine ⟨by rw [← hh.n]; simp, fun i hi => Nat.lt_of_lt_of_le (hh.lt i hi) hsz, hh.inj, fun i o ho => ?_⟩
     rcases zQb i h0.length with hi | hi
     · rw [List.getElem?_append_left hi] at ho
       have hig : i < g.n := by omega
       have hne : g.loc i ≠ b := fun e => by
         have := hh.inj i h0.length hig hm (e.trans hb.symm)
         omega
       exact (hh.obj i o (by rw [List.getElem?_append_left hi]; exact ho)).keepAt hk ⟨hblk _ (hh.lt i hig) hne, rfl⟩
     · have hie : i = h0.length := by
         rcases zQb i (h0.length + 1) with h | h
         · omega
         · rw [zUa (by simp; omega)] at ho; cases ho
       subst hie
       rw [heap_last] at ho
       cases ho
       show RowE _ _ _ _ _ (g.loc h0.length)
       rw [hb]; exact hrow' hk
   · exact ⟨hw.1, hw.2.1, hw.2.2, hsz, fun k hk' hno => hblk k hk' fun e => hno _ hm (hb.trans e.symm)⟩
 by_cases hn : l.length = 0
 · have hl : l = [] := List.eq_nil_of_length_eq_zero hn
   subst hl
   refine (AnyF.slices_SortFunc_none Tryz.sortLine (some ⟨b, 0, none⟩) c _ w).mono ?_
   rintro e' w' ⟨rfl, rfl⟩
   exact fin w' [] (.refl _) .nil ⟨rfl, rfl, rfl⟩ (zLa _) (fun _ _ _ => rfl) fun _ => hrow
 · obtain ⟨cur, a1, a2, a3, a4, a5, a6⟩ := hrow
   have hi : Inhabited (Fin l.length) := ⟨⟨0, by omega⟩⟩
   have hfl : (flat (l.map lnAv)).length = l.length * 4 := by
     rw [flat_length (sz := 4) (fun x hx => by obtain ⟨p, -, rfl⟩ := zTa.1 hx; rfl), zJa]
   let enc : Fin l.length → List Value := fun i => [cur.getD (i.1 * 4) undef, cur.getD (i.1 * 4 + 1) undef, cur.getD (i.1 * 4 + 2) undef, cur.getD (i.1 * 4 + 3) undef]
   have henc : ∀ (i : Fin l.length) (r : Nat), r < 4 → (enc i)[r]! = cur.getD (i.1 * 4 + r) undef := fun i r hr => by
     have : r = 0 ∨ r = 1 ∨ r = 2 ∨ r = 3 := by omega
     rcases this with rfl | rfl | rfl | rfl <;> rfl
   let cf : Fin l.length → Fin l.length → Int := fun i j => cmpI l[i].fund l[j].fund
   have hcell : ∀ j, j < l.length * 4 → (cur.getD j undef).oneCell' = true := fun j hj => a5 j (by omega)
   have hrepc : ∀ (i : Fin l.length) (r : Nat) (u : AV), r < 4 → (lnAv l[i]).cells[r]? = some u → Rep w g u (cur.getD (i.1 * 4 + r) undef) := fun i r u hr hu => a6 _ u (by rw [flat_ln l i.1 r i.2 hr]; exact hu)
   have h1 : ∀ x, ∀ v ∈ enc x, v.oneCell' = true := fun x v hv => by
     have hx := x.2
     simp only [enc, zOa, zYa, or_false] at hv
     rcases hv with rfl | rfl | rfl | rfl
     all_goals exact hcell _ (by omega)
   have hkW : ∀ m dk os, Keeps w g (sortWorldK enc 4 w b 0 m dk os) g := fun m dk os => by
     obtain ⟨q1, q2, q3⟩ := sortW_heap4 enc w b m dk os
     exact ⟨fun _ => zLa _, fun k j v hj hv => by
       have hkb : k ≠ b := fun e => by rw [e, a4] at hj; omega
       have hkl : k < w.heap.size := by
         rcases zQb k w.heap.size with h | h
         · exact h
         · rw [hfr k h] at hj; omega
       rw [World.cell?_of_block (a := ⟨k, j, none⟩) (q1 k hkl hkb)]; exact hv, zLa _, fun _ _ => rfl⟩
   have hcmp : CmpLays Tryz.prog 282 #[] enc 4 cf b 0 (zJb l.length).toArray.size w := fun m os dk _ x y => by
     have hx := x.2
     have hy := y.2
     have r1 := (rep_v ((hrepc x 0 (.v (.int .i64 l[x].fund)) (by decide) rfl).keep (hkW m dk os))).1
     have r2 := (rep_v ((hrepc y 0 (.v (.int .i64 l[y].fund)) (by decide) rfl).keep (hkW m dk os))).1
     have := funds1_calls (sortWorldK enc 4 w b 0 m dk os) (cur.getD (x.1 * 4 + 1) undef) (cur.getD (x.1 * 4 + 2) undef) (cur.getD (x.1 * 4 + 3) undef) (cur.getD (y.1 * 4 + 1) undef) (cur.getD (y.1 * 4 + 2) undef) (cur.getD (y.1 * 4 + 3) undef) l[x].fund l[y].fund
       (hcell _ (by omega)) (hcell _ (by omega)) (hcell _ (by omega)) (hcell _ (by omega)) (hcell _ (by omega)) (hcell _ (by omega))
     show Calls _ _ #[.agg #[cur.getD (x.1 * 4) undef, _, _, _], .agg #[cur.getD (y.1 * 4) undef, _, _, _]] _ _
     simp only [Nat.add_zero] at r1 r2
     rw [r1, r2]
     exact this
   have hdsz : (zJb l.length).toArray.size = l.length := by simp
   have hdg : ∀ i, (hi : i < l.length) → (zJb l.length).toArray[i]! = ⟨i, hi⟩ := fun i hi => by
     rw [getElem!_pos _ i (by simpa using hi)]; simp
   have hH : HoldsK enc 4 w b 0 (zJb l.length).toArray := fun j hj => by
     rw [Sort.size_flatK, hdsz] at hj
     rw [Nat.zero_add]
     refine ⟨?_, ?_⟩
     · rw [cell_of_row w b j cur e (0, 0) a1, Sort.get_flatK _ _ _ _ (by rw [hdsz]; exact hj), hdg _ (by omega), henc _ _ (by omega)]
       have e1 : j / 4 * 4 + j % 4 = j := by omega
       rw [e1]
       simp [Array.getD, show j < cur.size by omega]
     · simp [World.frozen?, a1]
   have hT : ∀ x y : Fin l.length, (ltOf cf) x y = false → (ltOf cf) y x = false → x = y := fun x y hx hy => by
     simp only [ltOf, decide_eq_false_iff_not] at hx hy
     have := cmpI_eq _ _ hx hy
     have hp := List.pairwise_iff_getElem.1 hnd
     apply Fin.ext
     rcases Nat.lt_trichotomy x.1 y.1 with h | h | h
     · exact absurd (by simpa using this) (hp x.1 y.1 (by simp) (by simp) h)
     · exact h
     · exact absurd (by simpa using this.symm) (hp y.1 x.1 (by simp) (by simp) h)
   have eg : ∀ args w, (callFunc 282 args).run Tryz.prog w = .ok (.enter 282 args) w := enters_of Tryz.func282 (by kernel_rfl) rfl
   have key := AnyQ.slices_SortFunc_total Tryz.sortLine 4 Tryz.isAgg45 Tryz.sizeOf45 enc (fun _ => rfl) h1 cf (swo_ints fun i : Fin l.length => l[i].fund) 282 #[] b 0 c (zJb l.length).toArray w eg hcmp hH hblt (by rw [hdsz]; exact hln) hT
   rw [hdsz] at key
   refine Calls.mono key ?_
   rintro e' w' ⟨rfl, m, os, rfl⟩
   have hperm := List.mergeSort_perm (zJb l.length) (fun x y => !(ltOf cf) y x)
   have hsort := List.pairwise_mergeSort (le := fun x y => !(ltOf cf) y x) (fun x y z h1 h2 => by
       have hs := (swo_ints fun i : Fin l.length => l[i].fund).ntrans z y x
       simp only [Bool.not_eq_true'] at h1 h2 ⊢
       exact hs h2 h1) (fun x y => by
       cases hxy : ltOf cf y x
       · simp
       · have : ltOf cf x y = false := by
           simp only [ltOf, decide_eq_true_eq, decide_eq_false_iff_not] at hxy ⊢
           exact cmpI_asymm _ _ hxy
         simp [this]) (zJb l.length)
   have htl : (zJb l.length).toArray.toList = zJb l.length := by simp
   rw [htl]
   generalize hds : List.mergeSort (zJb l.length) (fun x y => !(ltOf cf) y x) = ds at hperm hsort
   have hlen : ds.length = l.length := by rw [hperm.length_eq]; simp
   have hget : (zJb l.length).map (fun i => l[i]) = l := by
     apply List.ext_getElem
     · simp
     · intro i h1 h2; simp
   have hnodup : ds.Nodup := hperm.nodup_iff.2 (List.nodup_finRange _)
   obtain ⟨q1, q2, q3⟩ := sortW_heap4 enc w b m ds.toArray os
   refine fin _ (ds.map fun i => l[i]) ?_ ?_ ⟨rfl, rfl, rfl⟩ q2 q1 fun hk => ?_
   · have := hperm.map fun i : Fin l.length => l[i]
     rw [hget] at this; exact this
   · rw [List.pairwise_map]
     refine (hsort.and hnodup).imp fun {x y} hxy => ?_
     obtain ⟨hle, hne⟩ := hxy
     by_cases hlt : cf x y < 0
     · exact hlt
     · exact absurd (hT x y (by simpa [ltOf] using hlt) (by simpa using hle)) hne
   · refine ⟨_, q3 cur e (0, 0) a1, by simp [Sort.putCells, a2], by rw [flat_length (sz := 4) (fun x hx => by obtain ⟨p, -, rfl⟩ := zTa.1 hx; rfl)]; simp; omega, a4, fun j hj => ?_, fun j u hu => ?_⟩
     all_goals
       have hj' : j < l.length * 4 := by
         have hfl2 : (flat ((ds.map fun i => l[i]).map lnAv)).length = l.length * 4 := by
           rw [flat_length (sz := 4) (fun x hx => by obtain ⟨p, -, rfl⟩ := zTa.1 hx; rfl)]; simp [hlen]
         first
           | omega
           | (rcases zQb j (l.length * 4) with h' | h'
              · exact h'
              · rw [zUa (by omega)] at hu; cases hu)
       have hjd : j / 4 < ds.length := by omega
       have hnew : (Sort.putCells id 0 (flatK enc 4 ds.toArray) cur).getD j undef = cur.getD (ds[j / 4].1 * 4 + j % 4) undef := by
         have hjc : j < cur.size := by omega
         have e1 : (Sort.putCells id 0 (flatK enc 4 ds.toArray) cur).getD j undef = (flatK enc 4 ds.toArray)[j]! := by
           simp only [Sort.putCells]
           simp [Array.getD, hjc, hlen, hj']
         rw [e1, Sort.get_flatK _ _ _ _ (by simp [hlen]; exact hj'), get!_toArray_fin ds _ hjd, henc _ _ (by omega)]
     · rw [hnew]
       have := ds[j / 4].2
       exact hcell _ (by omega)
     · rw [hnew]
       have hu' : (lnAv l[ds[j / 4]]).cells[j % 4]? = some u := by
         have := flat_ln (ds.map fun i => l[i]) (j / 4) (j % 4) (by simpa using hjd) (by omega)
         rw [show j / 4 * 4 + j % 4 = j by omega, hu] at this
         rw [this]; simp
       exact (hrepc ds[j / 4] (j % 4) u (by omega) hu').keep hk
def sortLnNilSpec : Vm.Spec := fun args h Q => ∃ g, args = [.v (.slice none 0 0), .clo g []] ∧ Q (.tup []) h
theorem does_sortLnNil : Does Tryz.prog 281 sortLnNilSpec := by
 refine ⟨⟨Tryz.f281, Tryz.func281, by kernel_rfl, by decide +kernel⟩, ?_⟩
 rintro args h Q ⟨f, rfl, hq⟩ w g vs hvs hrep hh hfr hlaid
 have hv0 : vs.getD 0 undef = .slice none 0 0 := (rep_v (hrep 0 _ rfl)).1
 have hvs2 : vs = #[.slice none 0 0, vs.getD 1 undef] := by
   have h2 : vs.size = 2 := hvs
   apply Array.ext
   · simpa using h2
   · intro i hi1 hi2
     have : i = 0 ∨ i = 1 := by omega
     rcases this with rfl | rfl
     · simpa [Array.getD, h2] using hv0
     · simp [Array.getD, h2]
 rw [hvs2]
 refine (AnyF.slices_SortFunc_none Tryz.sortLine none 0 _ w).mono ?_
 rintro e' w' ⟨rfl, rfl⟩
 exact ⟨.tup [], h, g, .tuple #[], hq, rfl, .tup rfl (fun j u hu => by simp at hu), hh, ⟨rfl, rfl, rfl, zLa _, fun _ _ _ => rfl⟩, zLa _, fun _ _ => rfl, fun _ _ => rfl, fun i hi h1 => by omega, hfr⟩
end Go.Proofs.Lx
namespace Go.Proofs.Lx
open Go.Vm
attribute [local irreducible] awpArr awpBin awpMake awpAppend awpCvX awpStrOf awpBinX awpSlice awpBS awpStore awpAlloc awpCopy awpIndex awpDraw awpIdxX awpFa awpField awpLookup awpUpdate awpDelete awpClear awpRange awpNext awpEntry awpBuild
end Go.Proofs.Lx
namespace Go.Proofs.Lx
open Go.Vm
attribute [local irreducible] awpArr awpBin awpMake awpAppend awpCvX awpStrOf awpBinX awpSlice awpBS awpStore awpAlloc awpCopy awpIndex awpDraw awpIdxX awpFa awpField awpLookup awpUpdate awpDelete awpClear awpRange awpNext awpEntry awpBuild awpClearS awpIdxL
end Go.Proofs.Lx
namespace Go.Proofs.Lx
open Go.Vm
attribute [local irreducible] awpArr awpBin awpMake awpAppend awpCvX awpStrOf awpBinX awpSlice awpBS awpStore awpAlloc awpCopy awpIndex awpDraw awpIdxX awpFa awpField awpLookup awpUpdate awpDelete awpClear awpRange awpNext awpEntry awpBuild awpClearS awpIdxL awpTree appB awpIdxO eltA treeA
theorem both_rnew {h : Heap} {V : VId} (hV : isView h V noF) : Both (rNewH h) V (rNewId h) noF := by
 refine ⟨by unfold rNewH; exact hV.more _, isRef_new h, fun i hi hm => ?_⟩
 obtain ⟨chg, clk, mem, clk2, h1, h2, h3, -⟩ := hV
 have a1 := get_lt h1
 have a2 := get_lt h2
 have a3 := get_lt h3
 simp only [rNewId, zOa, zYa, or_false] at hi hm
 omega
def intK (n : Int) : Value := .int .i64 n
def nOf (e : Ent) : Int := match e.key with
 | .int _ n => n
 | _ => 0
def mOf (e : Ent) : Int := match e.val with
 | .v (.int _ n) => n
 | _ => 0
theorem nOf_eq {e : Ent} {k : Int} (h : e.key = intK k) : nOf e = k := by unfold nOf; rw [h]; rfl
def BornI (es : List Ent) (clock : Nat) : Prop := ((es.map (·.born)).Nodup ∧ (es.map nOf).Nodup) ∧ ∀ e ∈ es, e.born < clock
theorem keyEq_int (a b : Int) : keyEq (intK a) (intK b) = (a == b) := by
 have h1 := keyEq_iff (d := .int .i64) (x := intK a) (y := intK b) rfl rfl
 cases h : keyEq (intK a) (intK b)
 · have : ¬ a = b := fun e => by rw [h1.2 (by rw [e])] at h; cases h
   simpa using this
 · have := h1.1 h
   simp only [intK, Value.int.injEq, true_and] at this
   simp [this]
theorem keys_int {es : List Ent} (h : ∀ e ∈ es, ∃ k, e.key = intK k) : ∀ e ∈ es, MapKept.IsKey (.int .i64) e.key := fun e he => by
 obtain ⟨k, hk⟩ := h e he
 rw [hk]; rfl
theorem mget_mputI {v : AV} {c : Nat} (k k' : Int) : ∀ {es : List Ent}, (∀ e ∈ es, ∃ k, e.key = intK k) →
   (mget (intK k') (mput (intK k) v c es)).map Ent.val = if k' = k then some v else (mget (intK k') es).map Ent.val
 | [], _ => by
   simp only [mput, mget, List.find?_cons, List.find?_nil, keyEq_int]
   by_cases h : k' = k
   · simp [h]
   · have h4 : (k' == k) = false := by simpa using h
     simp [h, h4]
 | e :: es, hk => by
   obtain ⟨q, hq⟩ := hk e (zKa ..)
   simp only [mput, hq, keyEq_int]
   by_cases h1 : k = q
   · subst h1
     simp only [beq_self_eq_true, if_true, mget, List.find?_cons, keyEq_int, hq]
     by_cases h : k' = k
     · simp [h]
     · have h4 : (k' == k) = false := by simpa using h
       simp [h, h4]
   · have h2 : (k == q) = false := by simpa using h1
     simp only [h2, Bool.false_eq_true, if_false, mget, List.find?_cons, hq, keyEq_int]
     by_cases h3 : k' = q
     · have : ¬ k' = k := fun e => h1 (e.symm.trans h3)
       simp [h3, Ne.symm h1]
     · have h4 : (k' == q) = false := by simpa using h3
       simp only [h4]
       exact mget_mputI k k' fun e he => hk e (zMa _ he)
theorem mput_keysI {q : Int} {v : AV} {c : Nat} : ∀ {es : List Ent}, (∀ e ∈ es, ∃ k, e.key = intK k) → (mput (intK q) v c es).map nOf = es.map nOf ∨ (q ∉ es.map nOf ∧ (mput (intK q) v c es).map nOf = es.map nOf ++ [q])
 | [], _ => .inr ⟨by simp, by simp [mput, nOf, intK]⟩
 | x :: es, hk => by
   obtain ⟨kx, hx⟩ := hk x (zKa ..)
   have hkx : nOf x = kx := nOf_eq hx
   simp only [mput]
   rw [hx, keyEq_int]
   by_cases hq : q = kx
   · left
     subst hq
     have e1 : nOf ⟨intK q, v, x.born⟩ = nOf x := by rw [hkx]; exact nOf_eq rfl
     simp [e1]
   · have hq' : (q == kx) = false := by simpa using hq
     rw [hq']
     simp only [Bool.false_eq_true, if_false, zSb]
     rcases mput_keysI (q := q) (v := v) (c := c) (es := es) (fun e he => hk e (zMa _ he)) with h | ⟨h1, h2⟩
     · left; rw [h]
     · right
       refine ⟨?_, by rw [h2]; rfl⟩
       simp only [zOa, not_or]
       exact ⟨by rw [hkx]; exact hq, h1⟩
theorem BornI.put {q : Int} {v : AV} {c : Nat} {es : List Ent} (h : BornI es c) (hk : ∀ e ∈ es, ∃ k, e.key = intK k) : BornI (mput (intK q) v c es) (mclk (intK q) es c) := by
 have hkeys : ((mput (intK q) v c es).map nOf).Nodup := by
   rcases mput_keysI (q := q) (v := v) (c := c) hk with h' | ⟨h1, h2⟩
   · rw [h']; exact h.1.2
   · rw [h2, List.nodup_append]
     exact ⟨h.1.2, by simp, fun a ha b hb => by simp only [zNa] at hb; subst hb; intro e; exact h1 (e ▸ ha)⟩
 generalize intK q = k at hkeys ⊢
 have hb : ∀ b ∈ es.map (·.born), b < c := fun b hb => by obtain ⟨e, he, rfl⟩ := zTa.1 hb; exact h.2 e he
 have hc : c ≤ mclk k es c := by unfold mclk; split <;> omega
 rcases mput_born (k := k) (v := v) (c := c) (es := es) with h1 | ⟨h1, h2⟩
 · exact ⟨⟨by rw [h1]; exact h.1.1, hkeys⟩, fun e he => Nat.lt_of_lt_of_le (hb _ (h1 ▸ List.mem_map_of_mem he)) hc⟩
 · have h3 : mclk k es c = c + 1 := by simp [mclk, h1]
   refine ⟨⟨?_, hkeys⟩, fun e he => ?_⟩
   · rw [h2, List.nodup_append]
     refine ⟨h.1.1, by simp, fun a ha b hb' => ?_⟩
     simp only [zNa] at hb'
     have := hb a ha
     omega
   · have : e.born ∈ es.map (·.born) ++ [c] := h2 ▸ List.mem_map_of_mem he
     rw [h3]
     rcases zKb.1 this with h4 | h4
     · have := hb _ h4; omega
     · simp only [zNa] at h4; omega
theorem mget_iffI {es : List Ent} (hk : ∀ e ∈ es, ∃ k, e.key = intK k) (hn : (es.map nOf).Nodup) {k : Int} {e : Ent} : mget (intK k) es = some e ↔ e ∈ es ∧ nOf e = k := by
 constructor
 · intro h
   have hm := mget_mem h
   obtain ⟨q, hq⟩ := hk e hm
   have := List.find?_some (p := fun (e : Ent) => keyEq (intK k) e.key) h
   rw [hq, keyEq_int] at this
   exact ⟨hm, by rw [nOf_eq hq]; exact (by simpa using this : k = q).symm⟩
 · rintro ⟨hm, hke⟩
   cases hf : mget (intK k) es with
   | none =>
     have := List.find?_eq_none.1 hf e hm
     obtain ⟨q, hq⟩ := hk e hm
     rw [hq, keyEq_int, ← hke, nOf_eq hq] at this
     simp at this
   | some e' =>
     have hm' := mget_mem hf
     obtain ⟨q, hq⟩ := hk e' hm'
     have := List.find?_some (p := fun (e : Ent) => keyEq (intK k) e.key) hf
     rw [hq, keyEq_int] at this
     have hkq : k = q := by simpa using this
     rw [inj_of_map hn hm hm' (by rw [hke, nOf_eq hq]; exact hkq)]
theorem w64_add (a b : Int) : w64 (w64 a + b) = w64 (a + b) := by
 show IntKind.i64.wrap _ = IntKind.i64.wrap _
 rw [wrap_i64_toInt, wrap_i64_toInt]
 congr 1
 show BitVec.ofInt 64 (IntKind.i64.wrap a + b) = _
 rw [wrap_i64_toInt, BitVec.ofInt_add, BitVec.ofInt_toInt, ← BitVec.ofInt_add]
theorem w64s_perm {a b : List Int} (h : a.Perm b) : w64s a = w64s b := by
 refine h.foldl_eq' (fun x _ y _ z => ?_) 0
 show w64 (w64 (z + x) + y) = w64 (w64 (z + y) + x)
 rw [w64_add, w64_add]
 congr 1; omega
def sumF (l : List Ln) (n : Int) : Int := w64s ((l.filter (·.fund == n)).map (·.amt))
theorem sumF_step (l : List Ln) (x : Ln) (n : Int) : sumF (l ++ [x]) n = if n = x.fund then w64 (sumF l n + x.amt) else sumF l n := by
 unfold sumF
 rw [List.filter_append, List.map_append]
 by_cases h : n = x.fund
 · subst h
   simp [List.filter_cons, w64s, List.foldl_append]
 · have : (x.fund == n) = false := by simpa using fun e => h e.symm
   simp [List.filter_cons, this, h]
theorem sumF_none {l : List Ln} {n : Int} (h : ¬ ∃ y ∈ l, y.fund = n) : sumF l n = 0 := by
 have : l.filter (·.fund == n) = [] := List.filter_eq_nil_iff.2 fun y hy => by simpa using fun e => h ⟨y, hy, e⟩
 unfold sumF
 rw [this]; rfl
theorem sumF_perm {l l' : List Ln} (h : l.Perm l') (n : Int) : sumF l n = sumF l' n := w64s_perm ((h.filter _).map _)
def IsFunds (l r : List Ln) : Prop := r.Pairwise (fun a b => a.fund < b.fund) ∧ ∀ x, x ∈ r ↔ ((∃ y ∈ l, y.fund = x.fund) ∧ x = ⟨x.fund, 0, 0, sumF l x.fund⟩)
theorem funds_same {l r r' : List Ln} (h : IsFunds l r) (h' : IsFunds l r') : r = r' := by
 have hp : r.Perm r' := (List.perm_ext_iff_of_nodup (h.1.imp fun {a b} hab e => by subst e; omega) (h'.1.imp fun {a b} hab e => by subst e; omega)).2 fun x => (h.2 x).trans (h'.2 x).symm
 exact hp.eq_of_pairwise (fun a b _ _ h1 h2 => by omega) h.1 h'.1
theorem IsFunds.perm {l l' r : List Ln} (h : IsFunds l r) (hp : l.Perm l') : IsFunds l' r :=
 ⟨h.1, fun x => (h.2 x).trans (by rw [sumF_perm hp]; exact and_congr_left' ⟨fun ⟨y, h1, h2⟩ => ⟨y, hp.mem_iff.1 h1, h2⟩, fun ⟨y, h1, h2⟩ => ⟨y, hp.mem_iff.2 h1, h2⟩⟩)⟩
theorem nodup_le {α : Type} [DecidableEq α] : ∀ {a b : List α}, a.Nodup → (∀ x ∈ a, x ∈ b) → a.length ≤ b.length
 | [], _, _, _ => by simp
 | x :: a, b, hn, h => by
   have hn := List.nodup_cons.1 hn
   have := nodup_le (b := b.erase x) hn.2 fun y hy => (List.mem_erase_of_ne fun e => hn.1 (by rw [← e]; exact hy)).2 (h y (zMa _ hy))
   rw [List.length_erase_of_mem (h x (zKa ..))] at this
   have hb : 0 < b.length := List.length_pos_of_mem (h x (zKa ..))
   simp only [zIa]; omega
theorem IsFunds.len {l r : List Ln} (h : IsFunds l r) : r.length ≤ l.length := by
 have := nodup_le (a := r.map Ln.fund) (b := l.map Ln.fund) (List.pairwise_map.2 (h.1.imp fun {a b} hab => by omega)) fun x hx => by
   obtain ⟨y, hy, rfl⟩ := zTa.1 hx
   obtain ⟨z, hz, e⟩ := ((h.2 y).1 hy).1
   rw [← e]; exact List.mem_map_of_mem hz
 simpa using this
def SumE (l : List Ln) (es : List Ent) (clk : Nat) : Prop := (∀ e ∈ es, ∃ n, e.key = intK n) ∧ BornI es clk ∧ es.length ≤ l.length ∧
 ∀ n, ((∃ y ∈ l, y.fund = n) → (mget (intK n) es).map Ent.val = some (.v (.int .i64 (sumF l n)))) ∧ ((¬ ∃ y ∈ l, y.fund = n) → mget (intK n) es = none)
theorem SumE.step {l : List Ln} {es : List Ent} {clk : Nat} (h : SumE l es clk) (x : Ln) : SumE (l ++ [x]) (mput (intK x.fund) (.v (.int .i64 (w64 (sumF l x.fund + x.amt)))) clk es) (mclk (intK x.fund) es clk) := by
 obtain ⟨h1, h2, h3, h4⟩ := h
 refine ⟨fun e he => ?_, h2.put h1, ?_, fun n => ?_⟩
 · rcases mput_mem he with h | ⟨h, -⟩
   · exact h1 e h
   · exact ⟨_, h⟩
 · have := mput_length (k := intK x.fund) (v := .v (.int .i64 (w64 (sumF l x.fund + x.amt)))) (c := clk) es
   rw [zOb]; simp only [zIa, zPa]; omega
 · have hg := mget_mputI (v := .v (.int .i64 (w64 (sumF l x.fund + x.amt)))) (c := clk) x.fund n h1
   rw [sumF_step]
   by_cases d : n = x.fund
   · subst d
     rw [if_pos rfl] at hg
     rw [if_pos rfl]
     exact ⟨fun _ => hg, fun hn => (hn ⟨x, by simp, rfl⟩).elim⟩
   · rw [if_neg d] at hg
     rw [if_neg d]
     have hiff : (∃ y ∈ l ++ [x], y.fund = n) ↔ ∃ y ∈ l, y.fund = n := ⟨fun ⟨y, hy, e⟩ => by
       rcases zKb.1 hy with hy | hy
       · exact ⟨y, hy, e⟩
       · rw [zNa] at hy; subst hy; exact (d e.symm).elim, fun ⟨y, hy, e⟩ => ⟨y, by simp [hy], e⟩⟩
     rw [hiff]
     refine ⟨fun hn => by rw [hg]; exact (h4 n).1 hn, fun hn => ?_⟩
     have := (h4 n).2 hn
     rw [this] at hg
     cases hm : mget (intK n) (mput (intK x.fund) (.v (.int .i64 (w64 (sumF l x.fund + x.amt)))) clk es) with
     | none => rfl
     | some e => rw [hm] at hg; cases hg
def lnE (e : Ent) : Ln := ⟨nOf e, 0, 0, mOf e⟩
theorem SumE.val {l : List Ln} {es : List Ent} {clk : Nat} (h : SumE l es clk) {e : Ent} (he : e ∈ es) : e.key = intK (nOf e) ∧ e.val = .v (.int .i64 (sumF l (nOf e))) ∧ ∃ y ∈ l, y.fund = nOf e := by
 obtain ⟨n, hn⟩ := h.1 e he
 have hnn := nOf_eq hn
 have hg := (mget_iffI h.1 h.2.1.1.2 (k := nOf e) (e := e)).2 ⟨he, rfl⟩
 have hex : ∃ y ∈ l, y.fund = nOf e := Classical.byContradiction fun hc => by
   rw [(h.2.2.2 _).2 hc] at hg; cases hg
 have := (h.2.2.2 _).1 hex
 rw [hg] at this
 exact ⟨by rw [hnn]; exact hn, by simpa using this, hex⟩
theorem SumE.funds {l : List Ln} {es done : List Ent} {clk : Nat} {r : List Ln} (h : SumE l es clk) (hd : done.Perm es) (hp : r.Perm (done.map lnE)) (hs : r.Pairwise (fun a b => cmpI a.fund b.fund < 0)) : IsFunds l r := by
 refine ⟨hs.imp fun {a b} hab => (cmpI_lt _ _).1 hab, fun x => ?_⟩
 rw [hp.mem_iff, zTa]
 constructor
 · rintro ⟨e, he, rfl⟩
   obtain ⟨h1, h2, h3⟩ := h.val (hd.mem_iff.1 he)
   refine ⟨h3, ?_⟩
   have hm : mOf e = sumF l (nOf e) := by unfold mOf; rw [h2]
   simp only [lnE, hm]
 · rintro ⟨hex, hx⟩
   have := (h.2.2.2 _).1 hex
   cases hm : mget (intK x.fund) es with
   | none => rw [hm] at this; cases this
   | some e =>
     obtain ⟨he, hn⟩ := (mget_iffI h.1 h.2.1.1.2).1 hm
     refine ⟨e, hd.mem_iff.2 he, ?_⟩
     obtain ⟨h1, h2, h3⟩ := h.val he
     have hmm : mOf e = sumF l (nOf e) := by unfold mOf; rw [h2]
     rw [hx]
     simp only [lnE, hmm, hn]
theorem SumE.nodup {l : List Ln} {es done : List Ent} {clk : Nat} (h : SumE l es clk) (hd : done.Perm es) : ((done.map lnE).map Ln.fund).Nodup := by
 rw [List.map_map]
 have : (done.map nOf).Nodup := ((hd.map nOf).nodup_iff).2 h.2.1.1.2
 exact this
theorem does_sortLine : Does Tryz.prog 281 (orS sortLnSpec sortLnNilSpec) := does_or does_sortLn does_sortLnNil
def fundsSpec : Vm.Spec := fun args h Q => ∃ l : List Ln, l.length ≤ 1073741824 ∧ args = [.sl 4 (l.map lnAv)] ∧ ∀ r h', IsFunds l r → Same h h' [] → Q (.own true 45 4 (r.map lnAv)) h'
theorem does_funds : Does Tryz.prog 227 fundsSpec := by
 refine dA (good_cons does_sortLine good_nil) Tryz.func227 rfl (by decide +kernel) ?_
 rintro args h Q ⟨l, hl, rfl, hq⟩
 refine ⟨by simp [Tryz.f227], ?_⟩
 simp -dsimp only [Vm.G, zA, zB, zC, zD, zE, zF, q227.1]
 refine awp_loop (fun m s h' => ∃ (i : Nat) (es : List Ent) (clk : Nat), i + m = l.length ∧ SumE (l.take i) es clk ∧ h' = h ++ [.map es clk] ∧ s = mk [(3, .mp h.length), (10, .sl 4 (l.map lnAv)), (11, .v (.int .i64 l.length)), (12, .v (.int .i64 (i : Nat)))])
   l.length _ (le_mk _ ?_) ⟨0, [], 0, by omega, ⟨by simp, ⟨⟨.nil, .nil⟩, by simp⟩, by simp, fun n => ⟨fun ⟨y, hy, _⟩ => by simp at hy, fun _ => rfl⟩⟩, rfl, rfl⟩ ?_
 · simp only [Vm.D]
   try simp -dsimp only [Vm.G, zA, zB, zC, zD, zE, zF, q227.1]
   repeat' first | exact .refl _ | exact .nil _ _ _ (by decide) | refine ⟨?_, ?_⟩
 · rintro m s h' ⟨i, es, clk, hi, hE, rfl, rfl⟩
   simp -dsimp only [Vm.G, zA, zB, zC, zD, zE, zF, q227.1]
   refine cond_intro (fun hcc => ?_) (fun hcc => ?_)
   · have hlt : i < l.length := by have := of_decide_eq_true hcc; omega
     have hw := hwN i (by omega)
     have hst := hE.step l[i]
     rw [← List.take_succ_eq_append_getElem hlt] at hst
     obtain ⟨x, hx⟩ : ∃ x, l[i] = x := ⟨_, rfl⟩
     have hel := hE.2.2.2 x.fund
     rw [hx] at hst
     simp -dsimp only [Vm.G, zA, zB, zC, zD, zE, zF, q227.1]
     refine idx_map lnAv l i hlt ?_
     simp only [hx, lnAv, lnCells]
     simp -dsimp only [Vm.G, zA, zB, zC, zD, zE, zF, q227.1, AV.cells]
     have fin : ∀ a : Int, a = sumF (l.take i) x.fund → SumE (l.take (i + 1)) (mput (intK x.fund) (.v (.int .i64 (IntKind.i64.wrap (a + x.amt)))) clk es) (mclk (intK x.fund) es clk) := fun a ha => by rw [ha]; exact hst
     refine lookup_intro mt330 z3 es clk (heap_last _ _) rfl (keys_int hE.1) (fun e he => ?_) (fun he => ?_)
     · have he : mget (intK x.fund) es = some e := he
       have hex : ∃ y ∈ l.take i, y.fund = x.fund := Classical.byContradiction fun hc => by rw [hel.2 hc] at he; cases he
       have hv := hel.1 hex
       rw [he] at hv
       have hv : e.val = .v (.int .i64 (sumF (l.take i) x.fund)) := by simpa using hv
       have f2 := fin _ rfl
       simp -dsimp only [Vm.G, zA, zB, zC, zD, zE, zF, q227.1, hv, lookRes, cst, Bool.false_eq_true, if_false]
       refine update_intro mt330 es clk (heap_last _ _) (kv := .int .i64 x.fund) (by rfl) (keys_int hE.1) ?_
       simp -dsimp only [Vm.G, zA, zB, zC, zD, zE, zF, q227.1, heap_setLast]
       refine kept_intro ⟨l.length - (i + 1), by omega, _, le_mk [(3, .mp h.length), (10, .sl 4 (l.map lnAv)), (11, .v (.int .i64 l.length)), (12, .v (.int .i64 (i + 1 : Nat)))] ?_, i + 1, _, _, by omega, f2, rfl, rfl⟩
       simp only [Vm.D, hw]
       try simp -dsimp only [Vm.G, zA, zB, zC, zD, zE, zF, q227.1, hw]
       repeat' first | exact .refl _ | exact .nil _ _ _ (by decide) | refine ⟨?_, ?_⟩
     · have hne : ¬ ∃ y ∈ l.take i, y.fund = x.fund := fun hc => by have := hel.1 hc; rw [show mget (intK x.fund) es = none from he] at this; cases this
       have f2 := fin 0 (sumF_none hne).symm
       have k0 : ∀ v b, lookRes false v b = v := fun _ _ => rfl
       simp -dsimp only [Vm.G, zA, zB, zC, zD, zE, zF, q227.1, k0]
       refine update_intro mt330 es clk (heap_last _ _) (kv := .int .i64 x.fund) (by rfl) (keys_int hE.1) ?_
       simp -dsimp only [Vm.G, zA, zB, zC, zD, zE, zF, q227.1, heap_setLast]
       refine kept_intro ⟨l.length - (i + 1), by omega, _, le_mk [(3, .mp h.length), (10, .sl 4 (l.map lnAv)), (11, .v (.int .i64 l.length)), (12, .v (.int .i64 (i + 1 : Nat)))] ?_, i + 1, _, _, by omega, f2, rfl, rfl⟩
       simp only [Vm.D, hw]
       try simp -dsimp only [Vm.G, zA, zB, zC, zD, zE, zF, q227.1, hw]
       repeat' first | exact .refl _ | exact .nil _ _ _ (by decide) | refine ⟨?_, ?_⟩
   · have hge : ¬ i < l.length := by have := of_decide_eq_false hcc; omega
     rw [zXa (by omega)] at hE
     have g0 := heap_last h (AObj.map es clk)
     have hsame := Same.more h [AObj.map es clk]
     generalize h ++ [AObj.map es clk] = hh at g0 hsame ⊢
     simp -dsimp only [Vm.G, zA, zB, zC, zD, zE, zF, q227.1]
     refine range_intro mt330 es clk g0 ?_
     simp -dsimp only [Vm.G, zA, zB, zC, zD, zE, zF, q227.1]
     refine awp_loop (fun m s h' => ∃ done : List Ent, m = (leftE es (done.map (·.born))).length ∧ done.length + m ≤ es.length ∧ h' = hh ∧ (∀ d ∈ done, d ∈ es) ∧ (done.map (·.born)).Nodup ∧ s = mk [(6, .own true 45 4 (((done).map lnE).map lnAv)), (25, .iter h.length clk ((done).map (·.born)) clk)])
       es.length _ (le_mk _ ?_) ⟨[], (congrArg List.length (List.filter_eq_self.2 fun _ _ => rfl)).symm, by simp, rfl, by simp, by simp, rfl⟩ ?_
     · simp only [Vm.D]
       try simp -dsimp only [Vm.G, zA, zB, zC, zD, zE, zF, q227.1]
       repeat' first | exact .refl _ | exact .nil _ _ _ (by decide) | refine ⟨?_, ?_⟩
     · clear hi hcc hge
       rintro m s h' ⟨done, rfl, hlen, rfl, hd, hdn, rfl⟩
       simp -dsimp only [Vm.G, zA, zB, zC, zD, zE, zF, q227.1]
       refine next_intro es clk g0 (fun e he => hE.2.1.2 e he) (zLa _) (fun hlf => ?_) (fun e he => ?_)
       · have hD : done.Perm es := seen_all hE.2.1.1.1 hd hdn hlf
         have hnd := hE.nodup hD
         have hel := hE.2.2.1
         have hdl := hD.length_eq
         simp -dsimp only [Vm.G, zA, zB, zC, zD, zE, zF, q227.1]
         refine call_in _ _ _ ?_
         simp -dsimp only [Vm.G, zA, zB, zC, zD, zE, zF, q227.1, callI_eq, ownSl_own, ownSl_alias]
         refine callI_tup (S := orS sortLnSpec sortLnNilSpec) (fun xs' => ∃ l' : List Ln, xs' = l'.map lnAv ∧ l'.Perm (done.map lnE) ∧ l'.Pairwise (fun a b => cmpI a.fund b.fund < 0)) rfl
           (fun xs' hx => ?_) (fun hx => ⟨?_, fun Q' hq' => .inr ⟨_, rfl, hq'⟩⟩) (fun c hc Q' hq' => .inl ⟨done.map lnE, _, c, 45, by rw [zJa], rfl, hnd, by rw [zJa]; omega, by rw [zJa] at hc; exact hc, fun l' hp hs => hq' _ _ ⟨l', rfl, hp, hs⟩ ?_⟩) (fun xs' hx => ?_)
         · obtain ⟨l', rfl, hp, hs⟩ := hx
           exact ⟨fun x hx => (hp.map lnAv).mem_iff.1 hx, by rw [zJa, zJa, hp.length_eq]⟩
         · have hnil : done.map lnE = [] := List.map_eq_nil_iff.1 hx
           exact ⟨[], rfl, by rw [hnil], .nil⟩
         · rw [zXa]
           rw [flat_length (sz := 4) (fun x hx => by obtain ⟨p, -, rfl⟩ := zTa.1 hx; rfl)]
           exact zLa _
         · obtain ⟨l', rfl, hp, hs⟩ := hx
           simp -dsimp only [Vm.G, zA, zB, zC, zD, zE, zF, q227.1]
           exact hq l' _ (hE.funds hD hp hs) hsame
       · obtain ⟨hem, heb⟩ := left_mem he
         obtain ⟨hk, hv, hex⟩ := hE.val hem
         obtain ⟨hd2, hdn2⟩ := done_more he hd hdn
         have hless := left_less he
         have emap : (done ++ [e]).map (·.born) = done.map (·.born) ++ [e.born] := by simp
         have hln : lnE e = ⟨nOf e, 0, 0, sumF l (nOf e)⟩ := by unfold lnE mOf; rw [hv]
         have hlnn := hE.2.2.1
         simp -dsimp only [Vm.G, zA, zB, zC, zD, zE, zF, q227.1]
         refine entry_intro es clk e g0 (find_born hE.2.1.1.1 hem) ?_
         simp only [hk, hv, intK]
         simp -dsimp only [Vm.G, zA, zB, zC, zD, zE, zF, q227.1]
         refine bs_intro zr45 (by decide) (by decide) rfl rfl (by simp [solid, AV.cells]) ?_
         simp -dsimp only [Vm.G, zA, zB, zC, zD, zE, zF, q227.1]
         refine app_sl Tryz.underlying33 (by simp [AV.cells]) (by simp only [zJa, zIa, zPa]; omega) ?_
         simp -dsimp only [Vm.G, zA, zB, zC, zD, zE, zF, q227.1]
         refine kept_intro ⟨_, hless, _, le_mk [(6, .own true 45 4 (((done ++ [e]).map lnE).map lnAv)), (25, .iter h.length clk ((done ++ [e]).map (·.born)) clk)] ?_, done ++ [e], by rw [emap], by rw [zOb]; simp only [zIa, zPa]; omega, rfl, hd2, hdn2, rfl⟩
         simp only [Vm.D, List.map_append, zSb, zRb, hln, lnAv, lnCells]
         try simp -dsimp only [Vm.G, zA, zB, zC, zD, zE, zF, q227.1, List.map_append, zSb, zRb, hln, lnAv, lnCells]
         repeat' first | exact .refl _ | exact .nil _ _ _ (by decide) | refine ⟨?_, ?_⟩
abbrev InR (n : Int) : Prop := 0 ≤ n ∧ n ≤ 4294967295
theorem keyOf_tag {t t' : UInt8} {l l' : List Int} (h : t ≠ t') : keyOf t l ≠ keyOf t' l' := fun e => by
 unfold keyOf at e
 exact h (List.cons.inj e).1
theorem bit_ne (b : Bool) : (bitOf b != 0) = b := by cases b <;> rfl
theorem nodeOf_put {m : Nd} (hm : m.ok) (r1 : InR m.year) (r2 : InR m.id) : nodeOf (ndK m) (ndV m) = some m := by
 have hv : ndV m = packs 8 (ndVal m) := rfl
 have hn : numsOf (packs 8 (ndVal m)) 10 = ndVal m := by
   refine numsOf_packs (ndVal m) fun x hx => ?_
   obtain ⟨o1, o2, o3, o4, o5, o6, o7, o8, o9, o10, o11⟩ := hm
   have ob := bit_i64 m.abs
   simp only [ndVal, zOa, zYa, or_false] at hx
   rcases hx with rfl | rfl | rfl | rfl | rfl | rfl | rfl | rfl | rfl | rfl <;> assumption
 unfold nodeOf numsPair
 rw [ndK, splitOf_key 78 (ndKey m) (by simp [ndKey])]
 have hk : (ndKey m).map clampK = [m.year, m.id] := by simp [ndKey, clampK_id r1.1 r1.2, clampK_id r2.1 r2.2]
 simp only [hk]
 rw [if_pos ⟨trivial, rfl, ndV_length m⟩, hv, hn]
 obtain ⟨a1, a2, a3, a4, a5, a6, a7, a8, a9, a10, a11, a12⟩ := m
 simp [ndOf, ndVal, bit_ne]
def yr20 (n : Nd) : Nd := { n with year := 2020 }
def putN (f : Fun) (n : Nd) : Fun := upd f (ndK (yr20 n)) (some (ndV (yr20 n)))
def begunF (l : List Nd) : Fun := l.foldl putN (openOf noF 2020).1
theorem begunF_n (l : List Nd) : (begunF l).n ≤ l.length + 1 := by
 have : ∀ (l : List Nd) (f : Fun), (l.foldl putN f).n = f.n + l.length := by
   intro l
   induction l with
   | nil => intro f; rfl
   | cons x r ih =>
     intro f
     rw [List.foldl_cons, ih]
     show f.n + 1 + r.length = _
     simp only [zIa]; omega
 unfold begunF
 rw [this]
 have := open_n noF 2020
 have h0 : noF.n = 0 := rfl
 omega
end Go.Proofs.Lx
namespace Go.Proofs.Lx
open Go.Vm
def tot {α : Type} (g : α → Int) : List α → Int
 | [] => 0
 | x :: r => g x + tot g r
theorem tot_append {α : Type} (g : α → Int) : ∀ a b : List α, tot g (a ++ b) = tot g a + tot g b
 | [], b => by show tot g b = 0 + _; omega
 | x :: r, b => by
   show g x + tot g (r ++ b) = g x + tot g r + tot g b
   rw [tot_append g r b]; omega
theorem tot_congr {α : Type} {g g' : α → Int} : ∀ {l : List α}, (∀ x ∈ l, g x = g' x) → tot g l = tot g' l
 | [], _ => rfl
 | x :: r, h => by
   show g x + tot g r = g' x + tot g' r
   rw [h x (zKa ..), tot_congr fun y hy => h y (zMa _ hy)]
theorem tot_add {α : Type} (g g' : α → Int) : ∀ l : List α, tot (fun x => g x + g' x) l = tot g l + tot g' l
 | [] => rfl
 | x :: r => by
   show g x + g' x + tot _ r = g x + tot g r + (g' x + tot g' r)
   rw [tot_add g g' r]; omega
theorem tot_neg {α : Type} (g : α → Int) : ∀ l : List α, tot (fun x => -g x) l = -tot g l
 | [] => rfl
 | x :: r => by
   show -g x + tot _ r = -(g x + tot g r)
   rw [tot_neg g r]; omega
theorem tot_zero {α : Type} {g : α → Int} : ∀ {l : List α}, (∀ x ∈ l, g x = 0) → tot g l = 0
 | [], _ => rfl
 | x :: r, h => by
   show g x + tot g r = 0
   rw [h x (zKa ..), tot_zero fun y hy => h y (zMa _ hy)]; rfl
theorem tot_map {α β : Type} (g : β → Int) (f : α → β) : ∀ l : List α, tot g (l.map f) = tot (fun x => g (f x)) l
 | [] => rfl
 | x :: r => by
   show g (f x) + tot g (r.map f) = g (f x) + _
   rw [tot_map g f r]
theorem tot_one {α : Type} [DecidableEq α] (c : α → Int) : ∀ {K : List α}, K.Nodup → ∀ k, tot (fun j => if k = j then c j else 0) K = if k ∈ K then c k else 0
 | [], _, k => by simp [tot]
 | x :: r, h, k => by
   rw [List.nodup_cons] at h
   show (if k = x then c x else 0) + tot _ r = _
   rw [tot_one c h.2 k]
   by_cases hx : k = x
   · subst hx
     rw [if_pos rfl, if_neg h.1, if_pos (zKa ..)]; omega
   · rw [if_neg hx]
     by_cases hr : k ∈ r
     · rw [if_pos hr, if_pos (zMa _ hr)]; omega
     · rw [if_neg hr, if_neg (by simp [hx, hr])]; rfl
theorem tot_groups {α κ : Type} [DecidableEq κ] (key : α → κ) (g : α → Int) (P : κ → Bool) {K : List κ} (hK : K.Nodup) : ∀ {T : List α}, (∀ x ∈ T, key x ∈ K) →
   tot (fun k => if P k = true then tot (fun x => if key x = k then g x else 0) T else 0) K = tot (fun x => if P (key x) = true then g x else 0) T
 | [], _ => tot_zero fun k _ => by simp [tot]
 | x :: r, h => by
   have ih := tot_groups key g P hK fun y hy => h y (zMa _ hy)
   show _ = (if P (key x) = true then g x else 0) + _
   rw [← ih]
   have e : tot (fun k => if P k = true then tot (fun x => if key x = k then g x else 0) (x :: r) else 0) K =
       tot (fun k => (if key x = k then (if P k = true then g x else 0) else 0) + (if P k = true then tot (fun x => if key x = k then g x else 0) r else 0)) K := tot_congr fun k _ => by
     show (if P k = true then (if key x = k then g x else 0) + tot _ r else 0) = _
     by_cases hp : P k = true
     · rw [if_pos hp, if_pos hp, if_pos hp]
     · rw [if_neg hp, if_neg hp, if_neg hp]; split <;> rfl
   rw [e, tot_add, tot_one (fun k => if P k = true then g x else 0) hK, if_pos (h x (zKa ..))]
abbrev Bk := Int × Int
def ck (x : Ln) : Bk := (clampK x.fund, clampK x.obj)
def gsum (T : List Ln) (k : Bk) : Int := tot (fun x => if ck x = k then x.amt else 0) T
def isBk (k : Bk) : Prop := InR k.1 ∧ InR k.2
theorem ck_in (x : Ln) : isBk (ck x) := ⟨clampK_range _, clampK_range _⟩
theorem bal_ck (y : Int) (x : Ln) : balK y x.fund x.obj = balK y (ck x).1 (ck x).2 := by
 unfold balK
 rw [← key_clamp 66 [y, x.fund, x.obj], ← key_clamp 66 [y, (ck x).1, (ck x).2]]
 have e1 : clampK (clampK x.fund) = clampK x.fund := clampK_id (clampK_range _).1 (clampK_range _).2
 have e2 : clampK (clampK x.obj) = clampK x.obj := clampK_id (clampK_range _).1 (clampK_range _).2
 simp only [zSb, zRb, ck, e1, e2]
theorem bal_inj {y : Int} {k k' : Bk} (h : isBk k) (h' : isBk k') (e : balK y k.1 k.2 = balK y k'.1 k'.2) : k = k' := by
 have := (key_inj (by simp) (by simp) e).2
 simp only [zSb, zRb, clampK_id h.1.1 h.1.2, clampK_id h.2.1 h.2.2, clampK_id h'.1.1 h'.1.2, clampK_id h'.2.1 h'.2.2, List.cons.injEq, and_true] at this
 exact Prod.ext this.2.1 this.2.2
def Stands (y : Int) (T : List Ln) (f : Fun) : Prop :=
 (∀ q v, f q = some v → (keyOf 66 [y]).isPrefixOf q = true → ∃ k : Bk, isBk k ∧ q = balK y k.1 k.2 ∧ ∃ n, I64 n ∧ n ≠ 0 ∧ v = be 8 n) ∧
 ∀ k : Bk, isBk k → readOf f (balK y k.1 k.2) = gsum T k
theorem stands_congr {y : Int} {T : List Ln} {f g : Fun} (h : Stands y T f) (he : ∀ q, (keyOf 66 [y]).isPrefixOf q = true → g q = f q) (hp : ∀ k : Bk, (keyOf 66 [y]).isPrefixOf (balK y k.1 k.2) = true) : Stands y T g :=
 ⟨fun q v hq hp2 => h.1 q v (by rw [← he q hp2]; exact hq) hp2, fun k hk => by
   have : readOf g (balK y k.1 k.2) = readOf f (balK y k.1 k.2) := by unfold readOf; rw [he _ (hp k)]
   rw [this]; exact h.2 k hk⟩
theorem bal_pre (y : Int) (k : Bk) : (keyOf 66 [y]).isPrefixOf (balK y k.1 k.2) = true := by
 rw [List.isPrefixOf_iff_prefix]
 refine ⟨be 4 (clampK k.1) ++ be 4 (clampK k.2), ?_⟩
 simp [balK, keyOf, packs]
theorem stands_new {y : Int} {f : Fun} (h : ∀ q, (keyOf 66 [y]).isPrefixOf q = true → f q = none) : Stands y [] f :=
 ⟨fun q v hq hp => (by rw [h q hp] at hq; cases hq), fun k _ => readOf_none (h _ (bal_pre y k))⟩
theorem stands_add {y : Int} {T : List Ln} {f : Fun} {x : Ln} (h : Stands y T f) (he : (balAdd f (balK y x.fund x.obj) x.amt).2 = 0) : Stands y (T ++ [x]) (balAdd f (balK y x.fund x.obj) x.amt).1 := by
 rw [bal_ck] at he ⊢
 have hc := ck_in x
 have hg : gsum (T ++ [x]) (ck x) = gsum T (ck x) + x.amt := by
   unfold gsum
   rw [tot_append]
   show _ + ((if ck x = ck x then x.amt else 0) + 0) = _
   rw [if_pos rfl]; omega
 have hr0 := h.2 (ck x) hc
 generalize hk : ck x = k at *
 unfold balAdd at he ⊢
 cases ha : addA (readOf f (balK y k.1 k.2)) x.amt with
 | none => rw [ha] at he; simp at he
 | some n =>
   simp only
   have hn := addA_i64 ha
   obtain ⟨hs, -⟩ := addA_sum ha
   have hset : ∀ q, balSet f (balK y k.1 k.2) n q = setv f (balK y k.1 k.2) n q := fun q => balSet_app f _ n q
   refine ⟨fun q v hq hp => ?_, fun j hj => ?_⟩
   · rw [hset q] at hq
     unfold setv at hq
     split at hq
     · rename_i e
       split at hq
       · cases hq
       · rename_i h0
         cases hq
         exact ⟨k, hc, e, n, hn, h0, rfl⟩
     · exact h.1 q v hq hp
   · by_cases hjk : j = k
     · subst hjk
       rw [setv_read hn hset, hg, hs, hr0]
     · have hne : balK y j.1 j.2 ≠ balK y k.1 k.2 := fun e => hjk (bal_inj hj hc e)
       have e : readOf (balSet f (balK y k.1 k.2) n) (balK y j.1 j.2) = readOf f (balK y j.1 j.2) := by
         unfold readOf
         rw [hset]
         unfold setv
         rw [if_neg hne]
       rw [e, h.2 j hj]
       unfold gsum
       rw [tot_append]
       show _ = tot _ T + ((if ck x = j then x.amt else 0) + 0)
       rw [hk, if_neg (fun e => hjk e.symm)]
       omega
theorem balOf_some {y : Int} {k : Bk} {n : Int} (hy : InR y) (hk : isBk k) (hn : I64 n) : balOf y (balK y k.1 k.2, be 8 n) = some ⟨k.1, k.2, 0, n⟩ := by
 unfold balOf
 simp only
 rw [balK, splitOf_key 66 [y, k.1, k.2] (by simp)]
 simp only [zSb, zRb, clampK_id hy.1 hy.2, clampK_id hk.1.1 hk.1.2, clampK_id hk.2.1 hk.2.2, be_length, if_true]
 rw [num8_be n hn]
def lk (x : Ln) : Bk := (x.fund, x.obj)
theorem allB_mem {y : Int} {T : List Ln} {f : Fun} {l : List KV} (hy : InR y) (h : Stands y T f) (hl : ScanIs f (keyOf 66 [y]) l) {x : Ln} :
   x ∈ allB y l ↔ isBk (lk x) ∧ x = ⟨x.fund, x.obj, 0, gsum T (lk x)⟩ ∧ gsum T (lk x) ≠ 0 := by
 constructor
 · intro hx
   obtain ⟨p, hp, e⟩ := List.mem_filterMap.1 hx
   obtain ⟨h1, h2⟩ := (hl.2 p.1 p.2).1 hp
   obtain ⟨k, hk, hq, n, hn, h0, hv⟩ := h.1 _ _ h1 h2
   have hp' : p = (balK y k.1 k.2, be 8 n) := Prod.ext hq hv
   rw [hp', balOf_some hy hk hn] at e
   cases e
   have hr := h.2 k hk
   rw [hq, hv] at h1
   rw [readOf_some hn h1] at hr
   exact ⟨hk, by show (⟨k.1, k.2, 0, n⟩ : Ln) = ⟨k.1, k.2, 0, gsum T k⟩; rw [← hr], by show gsum T k ≠ 0; rw [← hr]; exact h0⟩
 · rintro ⟨hk, e, h0⟩
   have hr := h.2 (lk x) hk
   cases hf : f (balK y (lk x).1 (lk x).2) with
   | none => rw [readOf_none hf] at hr; exact absurd hr.symm h0
   | some v =>
     obtain ⟨k, hk2, hq, n, hn, -, rfl⟩ := h.1 _ _ hf (bal_pre y _)
     rw [readOf_some hn hf] at hr
     refine List.mem_filterMap.2 ⟨(balK y (lk x).1 (lk x).2, be 8 n), (hl.2 _ _).2 ⟨hf, bal_pre y _⟩, ?_⟩
     rw [balOf_some hy hk hn, e, hr]
     rfl
theorem allB_nodup {y : Int} {T : List Ln} {f : Fun} {l : List KV} (hy : InR y) (h : Stands y T f) (hl : ScanIs f (keyOf 66 [y]) l) : ((allB y l).map lk).Nodup := by
 rw [List.Nodup, List.pairwise_map]
 unfold allB
 rw [List.pairwise_filterMap]
 refine hl.1.imp_of_mem fun {p q} hp hq hlt a ha b hb => ?_
 obtain ⟨h1, h2⟩ := (hl.2 p.1 p.2).1 hp
 obtain ⟨h3, h4⟩ := (hl.2 q.1 q.2).1 hq
 obtain ⟨k, hk, e1, n, hn, -, v1⟩ := h.1 _ _ h1 h2
 obtain ⟨k2, hk2, e2, n2, hn2, -, v2⟩ := h.1 _ _ h3 h4
 have hp' : p = (balK y k.1 k.2, be 8 n) := Prod.ext e1 v1
 have hq' : q = (balK y k2.1 k2.2, be 8 n2) := Prod.ext e2 v2
 rw [hp', balOf_some hy hk hn] at ha
 rw [hq', balOf_some hy hk2 hn2] at hb
 cases ha; cases hb
 intro e
 have e : k = k2 := e
 subst e
 have : keyLt p q := hlt
 rw [hp', hq'] at this
 unfold keyLt at this
 simp only at this
 exact absurd this (by rw [cb_self]; decide)
theorem allB_tot {y : Int} {T : List Ln} {f : Fun} {l : List KV} (hy : InR y) (h : Stands y T f) (hl : ScanIs f (keyOf 66 [y]) l) (P : Bk → Bool) :
   tot (fun x => if P (lk x) = true then x.amt else 0) (allB y l) = tot (fun x => if P (ck x) = true then x.amt else 0) T := by
 have hnd := allB_nodup hy h hl
 have e1 : tot (fun x => if P (lk x) = true then x.amt else 0) (allB y l) = tot (fun k => if P k = true then gsum T k else 0) ((allB y l).map lk) := by
   rw [tot_map]
   refine tot_congr fun x hx => ?_
   obtain ⟨-, e, -⟩ := (allB_mem hy h hl).1 hx
   have : x.amt = gsum T (lk x) := congrArg Ln.amt e
   rw [this]
 rw [e1]
 have hz : ∀ k, isBk k → k ∉ (allB y l).map lk → gsum T k = 0 := fun k hk hno => Classical.byContradiction fun hc => hno (zTa.2 ⟨⟨k.1, k.2, 0, gsum T k⟩, (allB_mem hy h hl).2 ⟨hk, rfl, hc⟩, rfl⟩)
 generalize (allB y l).map lk = K at hnd hz ⊢
 -- what is lacking
 have hM : ∃ M : List Bk, M.Nodup ∧ (∀ k ∈ M, isBk k ∧ k ∉ K) ∧ ∀ x ∈ T, ck x ∈ K ∨ ck x ∈ M := by
   clear e1 hz h
   induction T with
   | nil => exact ⟨[], .nil, by simp, by simp⟩
   | cons x r ih =>
     obtain ⟨M, m1, m2, m3⟩ := ih
     by_cases hx : ck x ∈ K ∨ ck x ∈ M
     · refine ⟨M, m1, m2, fun z hz => ?_⟩
       rcases zOa.1 hz with rfl | hz
       · exact hx
       · exact m3 z hz
     · refine ⟨ck x :: M, List.nodup_cons.2 ⟨fun hm => hx (.inr hm), m1⟩, fun k hk => ?_, fun z hz => ?_⟩
       · rcases zOa.1 hk with rfl | hk
         · exact ⟨ck_in x, fun hk => hx (.inl hk)⟩
         · exact m2 k hk
       · rcases zOa.1 hz with rfl | hz
         · exact .inr (zKa ..)
         · exact (m3 z hz).imp id (zMa _)
 obtain ⟨M, m1, m2, m3⟩ := hM
 have hKM : (K ++ M).Nodup := List.nodup_append.2 ⟨hnd, m1, fun a ha b hb e => (m2 b hb).2 (e ▸ ha)⟩
 have hg := tot_groups ck (fun x => x.amt) P hKM (T := T) fun x hx => zKb.2 (m3 x hx)
 rw [← hg, tot_append]
 have hM0 : tot (fun k => if P k = true then tot (fun x => if ck x = k then x.amt else 0) T else 0) M = 0 := tot_zero fun k hk => by
   have : tot (fun x => if ck x = k then x.amt else 0) T = 0 := hz k (m2 k hk).1 (m2 k hk).2
   rw [this]
   split <;> rfl
 rw [hM0]
 show tot (fun k => if P k = true then tot (fun x => if ck x = k then x.amt else 0) T else 0) K = _ + 0
 omega
end Go.Proofs.Lx
namespace Go.Proofs.Lx
open Go.Vm
attribute [local irreducible] awpArr awpBin awpMake awpAppend awpCvX awpStrOf awpBinX awpSlice awpBS awpStore awpAlloc awpCopy awpIndex awpDraw awpIdxX awpFa awpField awpLookup awpUpdate awpDelete awpClear awpRange awpNext awpEntry awpBuild awpClearS awpIdxL awpTree appB awpIdxO eltA treeA
theorem bytes4 (n : Int) : ((byteOf n 3).toNat : Int) = n / 16777216 % 256 ∧ ((byteOf n 2).toNat : Int) = n / 65536 % 256 ∧ ((byteOf n 1).toNat : Int) = n / 256 % 256 ∧ ((byteOf n 0).toNat : Int) = n % 256 := by
 have h3 := byteOf_nat n 3; have h2 := byteOf_nat n 2; have h1 := byteOf_nat n 1; have h0 := byteOf_nat n 0
 simp only [Nat.reduceMul, Int.reducePow, Nat.mul_zero, Int.pow_zero, Int.ediv_one] at h3 h2 h1 h0
 exact ⟨h3, h2, h1, h0⟩
end Go.Proofs.Lx
namespace Go.Proofs.Lx
open Go.Vm
theorem w64_spec (a : Int) : ∃ k : Int, w64 a = a + 18446744073709551616 * k := by
 refine ⟨-((a + 9223372036854775808) / 18446744073709551616), ?_⟩
 show IntKind.i64.wrap a = _
 simp only [IntKind.wrap, IntKind.bits, IntKind.signed]
 simp
 split <;> omega
theorem w64_congr {a b : Int} (h : ∃ k : Int, a = b + 18446744073709551616 * k) : w64 a = w64 b := by
 obtain ⟨k, rfl⟩ := h
 show IntKind.i64.wrap _ = IntKind.i64.wrap _
 simp only [IntKind.wrap, IntKind.bits, IntKind.signed]
 simp
theorem w64_of {a b : Int} (h : w64 a = w64 b) : ∃ k : Int, a = b + 18446744073709551616 * k := by
 obtain ⟨k, hk⟩ := w64_spec a
 obtain ⟨j, hj⟩ := w64_spec b
 exact ⟨j - k, by omega⟩
theorem w64_sub_l (a b : Int) : w64 (w64 a - b) = w64 (a - b) := by
 obtain ⟨k, hk⟩ := w64_spec a
 exact w64_congr ⟨k, by rw [hk]; omega⟩
theorem w64_sub_r (a b : Int) : w64 (a - w64 b) = w64 (a - b) := by
 obtain ⟨k, hk⟩ := w64_spec b
 exact w64_congr ⟨-k, by rw [hk]; omega⟩
theorem w64s_tot (l : List Int) : w64s l = w64 (tot id l) := by
 have h : ∀ (l : List Int) (a : Int), l.foldl (fun a b => w64 (a + b)) (w64 a) = w64 (a + tot id l) := by
   intro l
   induction l with
   | nil => intro a; show w64 a = w64 (a + 0); rw [Int.add_zero]
   | cons x r ih =>
     intro a
     show r.foldl (fun a b => w64 (a + b)) (w64 (w64 a + x)) = w64 (a + (x + tot id r))
     rw [w64_add, ih]
     congr 1; omega
 have := h l 0
 rw [Int.zero_add] at this
 rw [← this]
 rfl
theorem tot_filter {α : Type} (p : α → Bool) (g : α → Int) : ∀ l : List α, tot id ((l.filter p).map g) = tot (fun x => if p x = true then g x else 0) l
 | [] => rfl
 | x :: r => by
   rw [List.filter_cons]
   by_cases h : p x = true
   · rw [if_pos h]
     show g x + tot id ((r.filter p).map g) = (if p x = true then g x else 0) + _
     rw [if_pos h, tot_filter p g r]
   · rw [if_neg h]
     show tot id ((r.filter p).map g) = (if p x = true then g x else 0) + _
     rw [if_neg h, tot_filter p g r]; omega
structure Sm where
 fund : Int
 deb : Int
 cred : Int
def addS (s : Sm) (x : Ln) : Sm := if x.amt > 0 then { s with deb := w64 (s.deb + x.amt) } else { s with cred := w64 (s.cred - x.amt) }
def sumStep (out : List Sm) (x : Ln) : List Sm := match out.getLast? with
 | some s => if s.fund = x.fund then out.dropLast ++ [addS s x] else out ++ [addS ⟨x.fund, 0, 0⟩ x]
 | none => [addS ⟨x.fund, 0, 0⟩ x]
def sumsL (l : List Ln) : List Sm := l.foldl sumStep []
def goodS (p : List Ln) (s : Sm) : Prop := I64 s.deb ∧ I64 s.cred ∧ w64 (s.deb - s.cred) = w64 (tot (fun x => if x.fund = s.fund then x.amt else 0) p)
theorem addS_fund (s : Sm) (x : Ln) : (addS s x).fund = s.fund := by unfold addS; split <;> rfl
theorem addS_good {p : List Ln} {s : Sm} {x : Ln} (h : goodS p s) (hx : x.fund = s.fund) : goodS (p ++ [x]) (addS s x) := by
 obtain ⟨h1, h2, h3⟩ := h
 have e : tot (fun y => if y.fund = (addS s x).fund then y.amt else 0) (p ++ [x]) = tot (fun y => if y.fund = s.fund then y.amt else 0) p + x.amt := by
   rw [addS_fund, tot_append]
   show _ + ((if x.fund = s.fund then x.amt else 0) + 0) = _
   rw [if_pos hx]; omega
 have e2 : w64 ((addS s x).deb - (addS s x).cred) = w64 (s.deb - s.cred + x.amt) := by
   unfold addS
   split
   · show w64 (w64 (s.deb + x.amt) - s.cred) = _
     rw [w64_sub_l]; congr 1; omega
   · show w64 (s.deb - w64 (s.cred - x.amt)) = _
     rw [w64_sub_r]; congr 1; omega
 refine ⟨?_, ?_, ?_⟩
 · unfold addS; split
   · exact w64_range _
   · exact h1
 · unfold addS; split
   · exact h2
   · exact w64_range _
 · rw [e, e2, ← w64_add, h3, w64_add]
theorem good_more {p : List Ln} {s : Sm} {x : Ln} (h : goodS p s) (hx : x.fund ≠ s.fund) : goodS (p ++ [x]) s := by
 obtain ⟨h1, h2, h3⟩ := h
 refine ⟨h1, h2, ?_⟩
 rw [h3, tot_append]
 show _ = w64 (_ + ((if x.fund = s.fund then x.amt else 0) + 0))
 rw [if_neg hx]; congr 1; omega
def InvS (p : List Ln) (out : List Sm) : Prop := (p = [] ∧ out = []) ∨ ∃ o s, out = o ++ [s] ∧ (∀ t ∈ o, t.fund < s.fund ∧ goodS p t) ∧ goodS p s ∧ (∀ x ∈ p, x.fund ≤ s.fund) ∧ ∃ x ∈ p, x.fund = s.fund
theorem inv_step {p : List Ln} {out : List Sm} {x : Ln} (h : InvS p out) (hx : ∀ y ∈ p, y.fund ≤ x.fund) : InvS (p ++ [x]) (sumStep out x) := by
 have hI0 : I64 0 := by unfold I64; omega
 have hnew : (∀ y ∈ p, y.fund ≠ x.fund) → goodS (p ++ [x]) (addS ⟨x.fund, 0, 0⟩ x) := fun hn => by
   refine addS_good (s := ⟨x.fund, 0, 0⟩) ⟨hI0, hI0, ?_⟩ rfl
   show w64 (0 - 0) = w64 (tot (fun y => if y.fund = x.fund then y.amt else 0) p)
   rw [tot_zero fun y hy => if_neg (hn y hy)]
   rfl
 rcases h with ⟨rfl, rfl⟩ | ⟨o, s, rfl, h1, h2, h3, y0, hy0, hys⟩
 · refine .inr ⟨[], addS ⟨x.fund, 0, 0⟩ x, rfl, by simp, hnew (by simp), fun y hy => ?_, x, by simp, ?_⟩
   · rw [zIb, zNa] at hy
     subst hy
     rw [addS_fund]; exact Int.le_refl _
   · rw [addS_fund]
 · unfold sumStep
   simp only [List.getLast?_append, List.getLast?_singleton, Option.some_or]
   by_cases he : s.fund = x.fund
   · rw [if_pos he, List.dropLast_concat]
     refine .inr ⟨o, addS s x, rfl, fun t ht => ?_, addS_good h2 he.symm, fun y hy => ?_, x, by simp, ?_⟩
     · rw [addS_fund]
       have := (h1 t ht).1
       exact ⟨this, good_more (h1 t ht).2 (by omega)⟩
     · rw [addS_fund]
       rcases zKb.1 hy with hy | hy
       · exact h3 y hy
       · rw [zNa] at hy; subst hy; omega
     · rw [addS_fund]; exact he.symm
   · rw [if_neg he]
     have hlt : s.fund < x.fund := by have := hx y0 hy0; omega
     refine .inr ⟨o ++ [s], addS ⟨x.fund, 0, 0⟩ x, rfl, fun t ht => ?_, hnew (fun y hy => by have := h3 y hy; omega), fun y hy => ?_, x, by simp, ?_⟩
     · rw [addS_fund]
       rcases zKb.1 ht with ht | ht
       · have := (h1 t ht).1
         exact ⟨by show t.fund < x.fund; omega, good_more (h1 t ht).2 (by omega)⟩
       · rw [zNa] at ht; subst ht
         exact ⟨hlt, good_more h2 (by omega)⟩
     · rw [addS_fund]
       rcases zKb.1 hy with hy | hy
       · exact hx y hy
       · rw [zNa] at hy; subst hy; exact Int.le_refl _
     · rw [addS_fund]
theorem sums_inv : ∀ (r p : List Ln) (out : List Sm), InvS p out → (p ++ r).Pairwise (fun a b => a.fund ≤ b.fund) → InvS (p ++ r) (r.foldl sumStep out)
 | [], p, out, h, _ => by rw [zQa]; exact h
 | x :: r, p, out, h, hs => by
   have hx : ∀ y ∈ p, y.fund ≤ x.fund := fun y hy => (List.pairwise_append.1 hs).2.2 y hy x (zKa ..)
   have e : p ++ x :: r = (p ++ [x]) ++ r := by simp
   rw [e] at hs ⊢
   exact sums_inv r (p ++ [x]) _ (inv_step h hx) hs
def dueL (l : List Ln) (o : Int) : Int := w64s ((l.filter fun x => x.obj == o).map (·.amt))
def rightT (l : List Ln) : Bool := (sumsL l).all (fun s => s.deb == s.cred) && (dueL l 1900 == w64 (0 - dueL l 2900))
theorem right_of {l : List Ln} (hs : l.Pairwise (fun a b => a.fund ≤ b.fund)) (h1 : ∀ a, tot (fun x => if x.fund = a then x.amt else 0) l = 0)
   (h2 : tot (fun x => if x.obj = 1900 then x.amt else 0) l + tot (fun x => if x.obj = 2900 then x.amt else 0) l = 0) : rightT l = true := by
 have hinv := sums_inv l [] [] (.inl ⟨rfl, rfl⟩) hs
 rw [zIb] at hinv
 have hall : ∀ s ∈ sumsL l, goodS l s := fun s hm => by
   rcases hinv with ⟨-, e⟩ | ⟨o, t, e, g1, g2, -⟩
   · unfold sumsL at hm; rw [e] at hm; cases hm
   · unfold sumsL at hm; rw [e] at hm
     rcases zKb.1 hm with hm | hm
     · exact (g1 s hm).2
     · rw [zNa] at hm; subst hm; exact g2
 have hd : ∀ o : Int, dueL l o = w64 (tot (fun x => if x.obj = o then x.amt else 0) l) := fun o => by
   unfold dueL
   rw [w64s_tot, tot_filter]
   congr 1
   refine tot_congr fun x _ => ?_
   by_cases hx : x.obj = o
   · rw [if_pos hx, if_pos (by simpa using hx)]
   · rw [if_neg hx, if_neg (by simpa using hx)]
 unfold rightT
 rw [Bool.and_eq_true, List.all_eq_true]
 refine ⟨fun s hm => ?_, ?_⟩
 · obtain ⟨i1, i2, e⟩ := hall s hm
   rw [h1] at e
   obtain ⟨k, hk⟩ := w64_of e
   unfold I64 at i1 i2
   have : s.deb = s.cred := by omega
   simpa using this
 · rw [hd, hd, w64_sub_r]
   have : tot (fun x => if x.obj = 1900 then x.amt else 0) l = 0 - tot (fun x => if x.obj = 2900 then x.amt else 0) l := by omega
   rw [this]; simp
theorem cb_four {a b : Int} {u v : List UInt8} (ha : InR a) (hb : InR b) (h : Lib.compareBytes (be 4 a ++ u) (be 4 b ++ v) < 0) : a ≤ b := by
 have ea : be 4 a = [byteOf a 3, byteOf a 2, byteOf a 1, byteOf a 0] := rfl
 have eb : be 4 b = [byteOf b 3, byteOf b 2, byteOf b 1, byteOf b 0] := rfl
 rw [ea, eb] at h
 obtain ⟨a3, a2, a1, a0⟩ := bytes4 a
 obtain ⟨b3, b2, b1, b0⟩ := bytes4 b
 unfold InR at ha hb
 generalize byteOf a 3 = x3 at *; generalize byteOf a 2 = x2 at *; generalize byteOf a 1 = x1 at *; generalize byteOf a 0 = x0 at *
 generalize byteOf b 3 = y3 at *; generalize byteOf b 2 = y2 at *; generalize byteOf b 1 = y1 at *; generalize byteOf b 0 = y0 at *
 simp only [List.cons_append, zIb, Lib.compareBytes, UInt8.lt_iff_toNat_lt] at h
 repeat' split at h
 all_goals first | omega | (simp at h)
theorem cb_pre : ∀ (p u v : List UInt8), Lib.compareBytes (p ++ u) (p ++ v) = Lib.compareBytes u v
 | [], _, _ => rfl
 | x :: r, u, v => by
   simp only [List.cons_append, Lib.compareBytes]
   rw [cb_pre r u v]
   simp
theorem allB_sorted {y : Int} {T : List Ln} {f : Fun} {l : List KV} (hy : InR y) (h : Stands y T f) (hl : ScanIs f (keyOf 66 [y]) l) : (allB y l).Pairwise (fun a b => a.fund ≤ b.fund) := by
 unfold allB
 rw [List.pairwise_filterMap]
 refine hl.1.imp_of_mem fun {p q} hp hq hlt a ha b hb => ?_
 obtain ⟨h1, h2⟩ := (hl.2 p.1 p.2).1 hp
 obtain ⟨h3, h4⟩ := (hl.2 q.1 q.2).1 hq
 obtain ⟨k, hk, e1, n, hn, -, v1⟩ := h.1 _ _ h1 h2
 obtain ⟨k2, hk2, e2, n2, hn2, -, v2⟩ := h.1 _ _ h3 h4
 have hp' : p = (balK y k.1 k.2, be 8 n) := Prod.ext e1 v1
 have hq' : q = (balK y k2.1 k2.2, be 8 n2) := Prod.ext e2 v2
 rw [hp', balOf_some hy hk hn] at ha
 rw [hq', balOf_some hy hk2 hn2] at hb
 cases ha; cases hb
 have hb : ∀ k : Bk, isBk k → balK y k.1 k.2 = (66 :: be 4 y) ++ (be 4 k.1 ++ be 4 k.2) := fun k hk => by
   unfold balK keyOf packs
   simp [clampK_id hy.1 hy.2, clampK_id hk.1.1 hk.1.2, clampK_id hk.2.1 hk.2.2]
 have : keyLt p q := hlt
 unfold keyLt at this
 rw [e1, e2, hb k hk, hb k2 hk2, cb_pre] at this
 exact cb_four hk.1 hk2.1 this
def owedL (x : Ln) : List Ln := if x.amt > 0 then [⟨x.fund, 2900, 0, w64 (0 - x.amt)⟩] else if x.amt < 0 then [⟨x.fund, 1900, 0, w64 (0 - x.amt)⟩] else []
def balanceL (r : List Ln) : List Ln := r.flatMap owedL
theorem tot_flatMap {α β : Type} (g : β → Int) (f : α → List β) : ∀ l : List α, tot g (l.flatMap f) = tot (fun x => tot g (f x)) l
 | [] => rfl
 | x :: r => by
   rw [List.flatMap_cons, tot_append, tot_flatMap g f r]; rfl
theorem clamp_due (o : Int) (h : o = 1900 ∨ o = 2900) (x : Int) : clampK x = o ↔ x = o := by
 unfold clampK
 rcases h with rfl | rfl <;> split <;> split <;> omega
theorem entry_even {k r : List Ln} (hr : IsFunds k r) (hex : ∀ φ, sumF k φ = tot (fun x => if x.fund = φ then x.amt else 0) k ∧ -4611686018427387904 ≤ sumF k φ ∧ sumF k φ ≤ 4611686018427387904)
   (hno : ∀ x ∈ k, x.obj ≠ 1900 ∧ x.obj ≠ 2900) (h0 : tot (fun x => x.amt) k = 0) :
   (∀ a, tot (fun x => if clampK x.fund = a then x.amt else 0) (k ++ balanceL r) = 0) ∧
   tot (fun x => if clampK x.obj = 1900 then x.amt else 0) (k ++ balanceL r) + tot (fun x => if clampK x.obj = 2900 then x.amt else 0) (k ++ balanceL r) = 0 := by
 have hK : (r.map (·.fund)).Nodup := by
   rw [List.Nodup, List.pairwise_map]
   exact hr.1.imp fun {a b} hab e => by omega
 have hcov : ∀ x ∈ k, x.fund ∈ r.map (·.fund) := fun x hx => zTa.2 ⟨⟨x.fund, 0, 0, sumF k x.fund⟩, (hr.2 _).2 ⟨⟨x, hx, rfl⟩, rfl⟩, rfl⟩
 have hgr : ∀ P : Int → Bool, tot (fun x => if P x.fund = true then x.amt else 0) r = tot (fun x => if P x.fund = true then x.amt else 0) k := fun P => by
   have hg := tot_groups (fun x : Ln => x.fund) (fun x => x.amt) P hK (T := k) hcov
   rw [tot_map] at hg
   refine Eq.trans (tot_congr fun x hx => ?_) hg
   have e := ((hr.2 x).1 hx).2
   have : x.amt = sumF k x.fund := congrArg Ln.amt e
   rw [this, (hex x.fund).1]
 have hamt : ∀ x ∈ r, w64 (0 - x.amt) = -x.amt := fun x hx => by
   have e := ((hr.2 x).1 hx).2
   have : x.amt = sumF k x.fund := congrArg Ln.amt e
   have h1 := (hex x.fund).2
   rw [← this] at h1
   have : w64 (0 - x.amt) = 0 - x.amt := wrap_i64 (by omega) (by omega)
   omega
 refine ⟨fun a => ?_, ?_⟩
 · rw [tot_append]
   have e1 := hgr fun φ => decide (clampK φ = a)
   simp only [decide_eq_true_eq] at e1
   have e2 : tot (fun x => if clampK x.fund = a then x.amt else 0) (balanceL r) = -tot (fun x => if clampK x.fund = a then x.amt else 0) r := by
     unfold balanceL
     rw [tot_flatMap, ← tot_neg]
     refine tot_congr fun x hx => ?_
     unfold owedL
     split
     · show (if clampK x.fund = a then w64 (0 - x.amt) else 0) + 0 = _
       rw [hamt x hx]; split <;> omega
     · split
       · show (if clampK x.fund = a then w64 (0 - x.amt) else 0) + 0 = _
         rw [hamt x hx]; split <;> omega
       · show (0 : Int) = _
         split <;> omega
   rw [e2, e1]; omega
 · rw [tot_append, tot_append]
   have z1 : tot (fun x => if clampK x.obj = 1900 then x.amt else 0) k = 0 := tot_zero fun x hx => if_neg fun e => (hno x hx).1 ((clamp_due 1900 (.inl rfl) _).1 e)
   have z2 : tot (fun x => if clampK x.obj = 2900 then x.amt else 0) k = 0 := tot_zero fun x hx => if_neg fun e => (hno x hx).2 ((clamp_due 2900 (.inr rfl) _).1 e)
   have e3 : tot (fun x => if clampK x.obj = 1900 then x.amt else 0) (balanceL r) + tot (fun x => if clampK x.obj = 2900 then x.amt else 0) (balanceL r) = -tot (fun x => x.amt) r := by
     unfold balanceL
     rw [tot_flatMap, tot_flatMap, ← tot_add, ← tot_neg]
     refine tot_congr fun x hx => ?_
     have c1 : clampK 1900 = 1900 := rfl
     have c2 : clampK 2900 = 2900 := rfl
     unfold owedL
     split
     · show ((if clampK 2900 = 1900 then w64 (0 - x.amt) else 0) + 0) + ((if clampK 2900 = 2900 then w64 (0 - x.amt) else 0) + 0) = _
       rw [c2, if_neg (by decide), if_pos rfl, hamt x hx]; omega
     · split
       · show ((if clampK 1900 = 1900 then w64 (0 - x.amt) else 0) + 0) + ((if clampK 1900 = 2900 then w64 (0 - x.amt) else 0) + 0) = _
         rw [c1, if_pos rfl, if_neg (by decide), hamt x hx]; omega
       · show (0 : Int) + 0 = _
         omega
   have e4 := hgr fun _ => true
   simp only [if_true] at e4
   rw [z1, z2]
   have e5 : tot (fun x : Ln => x.amt) r = 0 := by rw [e4, h0]
   omega
end Go.Proofs.Lx
namespace Go.Proofs.Lx
open Go.Vm
attribute [local irreducible] awpArr awpBin awpMake awpAppend awpCvX awpStrOf awpBinX awpSlice awpBS awpStore awpAlloc awpCopy awpIndex awpDraw awpIdxX awpFa awpField awpLookup awpUpdate awpDelete awpClear awpRange awpNext awpEntry awpBuild awpClearS awpIdxL awpTree appB awpIdxO eltA treeA
def Dl.zero : Dl := ⟨0, 0, 0, 0⟩
def Dc.zero : Dc := ⟨0, 0, 0, 0, 0⟩
def dcOf (l : List Int) : Dc := ⟨l.getD 0 0, l.getD 1 0, l.getD 2 0, l.getD 3 0, l.getD 4 0⟩
def dlOf (l : List Int) : Dl := ⟨l.getD 2 0, l.getD 3 0, l.getD 4 0, l.getD 5 0⟩
def docOf (key val : List UInt8) : Option Dc := (numsPair 68 1 4 key val).map dcOf
def lineOf (key val : List UInt8) : Option Dl := (numsPair 76 2 4 key val).map dlOf
def docOfSpec : Vm.Spec := fun args h Q => ∃ key val : List UInt8, key.length ≤ 4611686018427387904 ∧ val.length ≤ 4611686018427387904 ∧ args = [.agg [.sl 1 (key.map encB), .sl 1 (val.map encB)]] ∧
 (∀ d, docOf key val = some d → Q (.tup [.agg (dcCells d), .v (.bool true)]) h) ∧ (docOf key val = none → Q (.tup [.agg (dcCells .zero), .v (.bool false)]) h)
theorem does_docOf : Does Tryz.prog 219 docOfSpec := by
 refine dA (good_cons does_documents (good_cons does_nums good_nil)) Tryz.func219 rfl (by decide +kernel) ?_
 rintro args h Q ⟨key, val, hk, hv, rfl, hq1, hq2⟩
 refine ⟨by simp [Tryz.f219], ?_⟩
 unfold docOf at hq1 hq2
 simp only [dcCells, Dc.zero] at hq2
 simp -dsimp only [Vm.G, zA, zB, zC, zD, zE, zF, q219.1]
 refine draw_cont [1] (.take 1 (.alt 0 (.alt 2 (.take 3 (.take 4 (.take 5 (.alt 6 (.alt 7 (.done) .stop) .stop)))) .stop) .stop)) (fun s h' => h' = h ∧ s 2 = .box (dcCells .zero) ∧ ((∃ l, numsPair 68 1 4 key val = some l ∧ s 4 = .own true 3 1 (l.map encI) ∧ s 5 = .v (.bool true)) ∨ (numsPair 68 1 4 key val = none ∧ s 5 = .v (.bool false)))) (by kernel_rfl) (by kernel_rfl) (by kernel_rfl) (by decide) ?_ ?_
 · simp -dsimp only [Vm.G, zA, zB, zC, zD, zE, zF, q219.1]
   refine call_one (S := tabSpec 68 1 4) rfl _ GaL.rfl ⟨rfl, ?_⟩
   simp -dsimp only [Vm.G, zA, zB, zC, zD, zE, zF, q219.1]
   refine call_one (S := numsSpec) rfl _ GaL.rfl ⟨68, 1, 4, key, val, by decide, hk, hv, rfl, fun l hl => ?_, fun hl => ?_, fun hl l => ?_⟩
   · simp -dsimp only [Vm.G, zA, zB, zC, zD, zE, zF, q219.1]
     exact ⟨rfl, .inl ⟨l, hl, rfl, trivial⟩⟩
   · simp -dsimp only [Vm.G, zA, zB, zC, zD, zE, zF, q219.1]
     exact ⟨rfl, .inr ⟨hl, trivial⟩⟩
   · simp -dsimp only [Vm.G, zA, zB, zC, zD, zE, zF, q219.1]
     exact ⟨rfl, .inr ⟨hl, trivial⟩⟩
 · rintro s h' ⟨rfl, hs2, ⟨l, hl, hs4, hs5⟩ | ⟨hl, hs5⟩⟩
   · rw [hl] at hq1
     have hlen := numsPair_length hl
     have hq1' := hq1 (dcOf l) rfl
     clear hq1 hq2 hl
     simp only [dcCells, Dc.zero] at hs2
     match l, hlen with
     | [a0, a1, a2, a3, a4], _ =>
     simp -dsimp only [Vm.G, zA, zB, zC, zD, zE, zF, q219.1, hs5]
     refine draw_cont [4] (.take 0 (.take 1 (.take 2 (.take 3 (.take 4 (.take 5 (.take 6 (.take 7 (.take 8 (.take 9 (.take 10 (.take 11 (.take 12 (.take 13 (.take 14 (.alt 15 (.alt 16 (.alt 17 (.done) .stop) .stop) .stop)))))))))))))))) (fun s h'' => h'' = h' ∧ s 2 = .box [.v (.int .i64 a0), .v (.int .i64 a1), .v (.int .i64 a2), .v (.int .i64 a3), .v (.int .i64 a4)] ∧ s 3 = .v (.bool true)) (by kernel_rfl) (by kernel_rfl) (by kernel_rfl) (by decide) ?_ ?_
     · simp -dsimp only [Vm.G, zA, zB, zC, zD, zE, zF, q219.1, idx_lit, idxE_some, Int.reduceToNat, Int.reduceLE, decide_true, eq_self, hs2, hs4, hs5, encI]
       repeat' first | rfl | exact True.intro | refine And.intro ?_ ?_
     · rintro s2 h2 ⟨rfl, g2, g3⟩
       simp -dsimp only [Vm.G, zA, zB, zC, zD, zE, zF, q219.1, g2, g3]
       exact hq1'
   · rw [hl] at hq2
     simp only [dcCells, Dc.zero] at hs2
     simp -dsimp only [Vm.G, zA, zB, zC, zD, zE, zF, q219.1, hs2, hs5]
     exact hq2 rfl
def lineOfSpec : Vm.Spec := fun args h Q => ∃ key val : List UInt8, key.length ≤ 4611686018427387904 ∧ val.length ≤ 4611686018427387904 ∧ args = [.agg [.sl 1 (key.map encB), .sl 1 (val.map encB)]] ∧
 (∀ d, lineOf key val = some d → Q (.tup [.agg (dlCells d), .v (.bool true)]) h) ∧ (lineOf key val = none → Q (.tup [.agg (dlCells .zero), .v (.bool false)]) h)
theorem does_lineOf : Does Tryz.prog 220 lineOfSpec := by
 refine dA (good_cons does_docLines (good_cons does_nums good_nil)) Tryz.func220 rfl (by decide +kernel) ?_
 rintro args h Q ⟨key, val, hk, hv, rfl, hq1, hq2⟩
 refine ⟨by simp [Tryz.f220], ?_⟩
 unfold lineOf at hq1 hq2
 simp only [dlCells, Dl.zero] at hq2
 simp -dsimp only [Vm.G, zA, zB, zC, zD, zE, zF, q220.1]
 refine draw_cont [1] (.take 1 (.alt 0 (.alt 2 (.take 3 (.take 4 (.take 5 (.alt 6 (.alt 7 (.done) .stop) .stop)))) .stop) .stop)) (fun s h' => h' = h ∧ s 2 = .box (dlCells .zero) ∧ ((∃ l, numsPair 76 2 4 key val = some l ∧ s 4 = .own true 3 1 (l.map encI) ∧ s 5 = .v (.bool true)) ∨ (numsPair 76 2 4 key val = none ∧ s 5 = .v (.bool false)))) (by kernel_rfl) (by kernel_rfl) (by kernel_rfl) (by decide) ?_ ?_
 · simp -dsimp only [Vm.G, zA, zB, zC, zD, zE, zF, q220.1]
   refine call_one (S := tabSpec 76 2 4) rfl _ GaL.rfl ⟨rfl, ?_⟩
   simp -dsimp only [Vm.G, zA, zB, zC, zD, zE, zF, q220.1]
   refine call_one (S := numsSpec) rfl _ GaL.rfl ⟨76, 2, 4, key, val, by decide, hk, hv, rfl, fun l hl => ?_, fun hl => ?_, fun hl l => ?_⟩
   · simp -dsimp only [Vm.G, zA, zB, zC, zD, zE, zF, q220.1]
     exact ⟨rfl, .inl ⟨l, hl, rfl, trivial⟩⟩
   · simp -dsimp only [Vm.G, zA, zB, zC, zD, zE, zF, q220.1]
     exact ⟨rfl, .inr ⟨hl, trivial⟩⟩
   · simp -dsimp only [Vm.G, zA, zB, zC, zD, zE, zF, q220.1]
     exact ⟨rfl, .inr ⟨hl, trivial⟩⟩
 · rintro s h' ⟨rfl, hs2, ⟨l, hl, hs4, hs5⟩ | ⟨hl, hs5⟩⟩
   · rw [hl] at hq1
     have hlen := numsPair_length hl
     have hq1' := hq1 (dlOf l) rfl
     clear hq1 hq2 hl
     simp only [dlCells, Dl.zero] at hs2
     match l, hlen with
     | [a0, a1, a2, a3, a4, a5], _ =>
     simp -dsimp only [Vm.G, zA, zB, zC, zD, zE, zF, q220.1, hs5]
     refine draw_cont [4] (.take 0 (.take 1 (.take 2 (.take 3 (.take 4 (.take 5 (.take 6 (.take 7 (.take 8 (.take 9 (.take 10 (.take 11 (.alt 12 (.alt 13 (.alt 14 (.done) .stop) .stop) .stop))))))))))))) (fun s h'' => h'' = h' ∧ s 2 = .box [.v (.int .i64 a2), .v (.int .i64 a3), .v (.int .i64 a4), .v (.int .i64 a5)] ∧ s 3 = .v (.bool true)) (by kernel_rfl) (by kernel_rfl) (by kernel_rfl) (by decide) ?_ ?_
     · simp -dsimp only [Vm.G, zA, zB, zC, zD, zE, zF, q220.1, idx_lit, idxE_some, Int.reduceToNat, Int.reduceLE, decide_true, eq_self, hs2, hs4, hs5, encI]
       repeat' first | rfl | exact True.intro | refine And.intro ?_ ?_
     · rintro s2 h2 ⟨rfl, g2, g3⟩
       simp -dsimp only [Vm.G, zA, zB, zC, zD, zE, zF, q220.1, g2, g3]
       exact hq1'
   · rw [hl] at hq2
     simp only [dlCells, Dl.zero] at hs2
     simp -dsimp only [Vm.G, zA, zB, zC, zD, zE, zF, q220.1, hs2, hs5]
     exact hq2 rfl
def fetchSpec : Vm.Spec := fun args h Q => ∃ (V : VId) (f : Fun) (tag : UInt8) (l : List Int), l.length ≤ 15 ∧ args = [.agg [.ptr V.iv 0], .v (.int .u8 tag.toNat), .sl 1 (l.map encI)] ∧ isView h V f ∧
 (∀ v, f (keyOf tag l) = some v → Q (.tup [.agg [.sl 1 ((keyOf tag l).map encB), .sl 1 (v.map encB)], .v (.bool true)]) h) ∧ (f (keyOf tag l) = none → Q (.tup [.agg [.sl 1 ((keyOf tag l).map encB), .sl 1 []], .v (.bool false)]) h)
theorem does_fetch : Does Tryz.prog 218 fetchSpec := by
 refine dA (good_cons does_key (good_cons does_vgetW good_nil)) Tryz.func218 rfl (by decide +kernel) ?_
 rintro args h Q ⟨V, f, tag, l, hl, rfl, hV, hq1, hq2⟩
 refine ⟨by simp [Tryz.f218], ?_⟩
 simp -dsimp only [Vm.G, zA, zB, zC, zD, zE, zF, q218.1]
 refine call_one (S := keySpec) rfl _ GaL.rfl ⟨tag, l, by omega, rfl, ?_⟩
 simp -dsimp only [Vm.G, zA, zB, zC, zD, zE, zF, q218.1]
 refine call_one (S := vgetWSpec) rfl _ GaL.rfl ⟨V, f, keyOf tag l, rfl, hV, fun v hf => ?_, fun hf => ?_⟩
 · simp -dsimp only [Vm.G, zA, zB, zC, zD, zE, zF, q218.1]
   exact hq1 v hf
 · simp -dsimp only [Vm.G, zA, zB, zC, zD, zE, zF, q218.1]
   exact hq2 hf
def headOk (id : Int) (d : Dc) : Bool := (d.id == id) && (decide (d.lines ≥ 1) && decide (d.lines ≤ 6))
def docHead (f : Fun) (id : Int) : Option Dc := (f (dcK id)).bind fun v => (docOf (dcK id) v).bind fun d => if headOk id d then some d else none
def lineAt (f : Fun) (id i : Int) : Option Dl := (f (dlK id i)).bind fun v => lineOf (dlK id i) v
def docSpec : Vm.Spec := fun args h Q => ∃ (V : VId) (f : Fun) (id : Int), args = [.agg [.ptr V.iv 0], .v (.int .i64 id)] ∧ isView h V f ∧
 (∀ d, docHead f id = some d → Q (.tup [.agg (dcCells d), .v (.bool true)]) h) ∧ (docHead f id = none → ∀ d : Dc, Q (.tup [.agg (dcCells d), .v (.bool false)]) h)
theorem does_doc : Does Tryz.prog 173 docSpec := by
 refine dA (good_cons does_fetch (good_cons does_docOf good_nil)) Tryz.func173 rfl (by decide +kernel) ?_
 rintro args h Q ⟨V, f, id, rfl, hV, hq1, hq2⟩
 refine ⟨by simp [Tryz.f173], ?_⟩
 have hk := dcK_length id
 unfold docHead at hq1 hq2
 simp -dsimp only [Vm.G, zA, zB, zC, zD, zE, zF, q173.1]
 refine bs_intro zr3 (by decide) (by decide) rfl rfl (by simp [solid, AV.cells]) ?_
 simp -dsimp only [Vm.G, zA, zB, zC, zD, zE, zF, q173.1]
 refine call_one (S := fetchSpec) rfl _ GaL.rfl ⟨V, f, 68, [id], by simp, rfl, hV, fun v hf => ?_, fun hf => ?_⟩
 · have hvl := hV.len _ _ hf
   have hf : f (dcK id) = some v := hf
   rw [hf] at hq1 hq2
   simp only [zRa] at hq1 hq2
   have ek : keyOf 68 [id] = dcK id := rfl
   simp -dsimp only [Vm.G, zA, zB, zC, zD, zE, zF, q173.1, ek]
   generalize dcK id = key at hk hq1 hq2
   refine call_one (S := docOfSpec) rfl _ GaL.rfl ⟨key, v, by omega, by omega, rfl, fun d hd => ?_, fun hd => ?_⟩
   · rw [hd] at hq1 hq2
     simp only [zRa] at hq1 hq2
     simp only [dcCells] at hq1 hq2 ⊢
     simp -dsimp only [Vm.G, zA, zB, zC, zD, zE, zF, q173.1]
     refine draw_cont [8] (.take 0 (.take 1 (.take 2 (.take 3 (.take 5 (.alt 4 (.take 6 (.take 7 (.take 8 (.take 9 (.alt 10 (.take 11 (.take 12 (.take 13 (.take 14 (.alt 15 (.take 16 (.take 17 (.alt 18 (.alt 19 (.done) .stop) .stop))) (.alt 18 (.alt 15 (.take 16 (.take 17 (.alt 19 (.done) .stop))) .stop) (.stop))))))) .stop))))) .stop)))))) (fun s h2 => h2 = h ∧ s 4 = .box [.v (.int .i64 d.id), .v (.int .i64 d.kind), .v (.int .i64 d.year), .v (.int .i64 d.frm), .v (.int .i64 d.lines)] ∧ s 5 = .v (.bool (headOk id d))) (by kernel_rfl) (by kernel_rfl) (by kernel_rfl) (by decide) ?_ ?_
     · clear hq1 hq2
       unfold headOk
       have h1 := zLb (d.id == id)
       rcases h1 with c1 | c1
       · have h2 := zLb (decide (d.lines ≥ 1))
         rcases h2 with c2 | c2
         · repeat' first
             | with_reducible exact True.intro
             | simp -dsimp only [Vm.G, zA, zB, zC, zD, zE, zF, q173.1, c1, c2, Bool.true_and]
             | refine tree_alt ?_ ?_
             | repeat' first | rfl | exact True.intro | refine And.intro ?_ ?_
         · repeat' first
             | with_reducible exact True.intro
             | simp -dsimp only [Vm.G, zA, zB, zC, zD, zE, zF, q173.1, c1, c2, Bool.true_and, Bool.false_and]
             | refine tree_alt ?_ ?_
             | repeat' first | rfl | exact True.intro | refine And.intro ?_ ?_
       · repeat' first
           | with_reducible exact True.intro
           | simp -dsimp only [Vm.G, zA, zB, zC, zD, zE, zF, q173.1, c1, Bool.false_and]
           | refine tree_alt ?_ ?_
           | repeat' first | rfl | exact True.intro | refine And.intro ?_ ?_
     · rintro s h2 ⟨rfl, e4, e5⟩
       have hd2 := zLb (headOk id d)
       rcases hd2 with c | c
       · rw [c] at e5
         simp -dsimp only [Vm.G, zA, zB, zC, zD, zE, zF, q173.1, e4, e5]
         exact hq1 d (if_pos c)
       · rw [c] at e5
         simp -dsimp only [Vm.G, zA, zB, zC, zD, zE, zF, q173.1, e4, e5]
         exact hq2 (if_neg (by rw [c]; decide)) d
   · rw [hd] at hq2
     have hq := hq2 rfl .zero
     simp only [dcCells, Dc.zero] at hq ⊢
     simp -dsimp only [Vm.G, zA, zB, zC, zD, zE, zF, q173.1]
     refine draw_cont [8] (.take 0 (.take 1 (.take 2 (.take 3 (.take 5 (.alt 4 (.take 6 (.take 7 (.take 8 (.take 9 (.alt 10 (.take 11 (.take 12 (.take 13 (.take 14 (.alt 15 (.take 16 (.take 17 (.alt 18 (.alt 19 (.done) .stop) .stop))) (.alt 18 (.alt 15 (.take 16 (.take 17 (.alt 19 (.done) .stop))) .stop) (.stop))))))) .stop))))) .stop)))))) (fun s h2 => h2 = h ∧ s 4 = .box [.v (.int .i64 0), .v (.int .i64 0), .v (.int .i64 0), .v (.int .i64 0), .v (.int .i64 0)] ∧ s 5 = .v (.bool false)) (by kernel_rfl) (by kernel_rfl) (by kernel_rfl) (by decide) ?_ ?_
     · clear hq1 hq2 hq
       repeat' first
         | with_reducible exact True.intro
         | simp -dsimp only [Vm.G, zA, zB, zC, zD, zE, zF, q173.1]
         | refine tree_alt ?_ ?_
         | repeat' first | rfl | exact True.intro | refine And.intro ?_ ?_
     · rintro s h2 ⟨rfl, e4, e5⟩
       simp -dsimp only [Vm.G, zA, zB, zC, zD, zE, zF, q173.1, e4, e5]
       exact hq
 · have hf : f (dcK id) = none := hf
   rw [hf] at hq2
   have hq := hq2 rfl .zero
   simp only [dcCells, Dc.zero] at hq
   simp -dsimp only [Vm.G, zA, zB, zC, zD, zE, zF, q173.1]
   exact hq
def dlineSpec : Vm.Spec := fun args h Q => ∃ (V : VId) (f : Fun) (id i : Int), args = [.agg [.ptr V.iv 0], .v (.int .i64 id), .v (.int .i64 i)] ∧ isView h V f ∧
 (∀ d, lineAt f id i = some d → Q (.tup [.agg (dlCells d), .v (.bool true)]) h) ∧ (lineAt f id i = none → Q (.tup [.agg (dlCells .zero), .v (.bool false)]) h)
theorem does_dline : Does Tryz.prog 174 dlineSpec := by
 refine dA (good_cons does_fetch (good_cons does_lineOf good_nil)) Tryz.func174 rfl (by decide +kernel) ?_
 rintro args h Q ⟨V, f, id, i, rfl, hV, hq1, hq2⟩
 refine ⟨by simp [Tryz.f174], ?_⟩
 have hk := dlK_length id i
 unfold lineAt at hq1 hq2
 simp only [dlCells, Dl.zero] at hq2
 simp -dsimp only [Vm.G, zA, zB, zC, zD, zE, zF, q174.1]
 refine bs_intro zr3 (by decide) (by decide) rfl rfl (by simp [solid, AV.cells]) ?_
 simp -dsimp only [Vm.G, zA, zB, zC, zD, zE, zF, q174.1]
 refine call_one (S := fetchSpec) rfl _ GaL.rfl ⟨V, f, 76, [id, i], by simp, rfl, hV, fun v hf => ?_, fun hf => ?_⟩
 · have hvl := hV.len _ _ hf
   have hf : f (dlK id i) = some v := hf
   rw [hf] at hq1 hq2
   simp only [zRa] at hq1 hq2
   have ek : keyOf 76 [id, i] = dlK id i := rfl
   simp -dsimp only [Vm.G, zA, zB, zC, zD, zE, zF, q174.1, ek]
   generalize dlK id i = key at hk hq1 hq2
   refine call_one (S := lineOfSpec) rfl _ GaL.rfl ⟨key, v, by omega, by omega, rfl, fun d hd => ?_, fun hd => ?_⟩
   · have hq := hq1 d hd
     simp only [dlCells] at hq ⊢
     simp -dsimp only [Vm.G, zA, zB, zC, zD, zE, zF, q174.1]
     exact hq
   · have hq := hq2 hd
     simp only [dlCells, Dl.zero]
     simp -dsimp only [Vm.G, zA, zB, zC, zD, zE, zF, q174.1]
     exact hq
 · have hf : f (dlK id i) = none := hf
   rw [hf] at hq2
   simp -dsimp only [Vm.G, zA, zB, zC, zD, zE, zF, q174.1]
   exact hq2 rfl
def linesAt (f : Fun) (id : Int) : Nat → Option (List Dl)
 | 0 => some []
 | n + 1 => (linesAt f id n).bind fun l => (lineAt f id n).map fun x => l ++ [x]
theorem linesAt_length {f : Fun} {id : Int} : ∀ {n : Nat} {l : List Dl}, linesAt f id n = some l → l.length = n
 | 0, l, h => by cases h; rfl
 | n + 1, l, h => by
   unfold linesAt at h
   cases h1 : linesAt f id n with
   | none => rw [h1] at h; cases h
   | some l1 =>
     rw [h1] at h
     cases h2 : lineAt f id n with
     | none => rw [zRa, h2] at h; cases h
     | some x =>
       rw [zRa, h2] at h
       cases h
       simp [linesAt_length h1]
theorem linesAt_none {f : Fun} {id : Int} : ∀ {n m : Nat}, n ≤ m → linesAt f id n = none → linesAt f id m = none
 | n, 0, hle, h => by
   obtain rfl : n = 0 := by omega
   exact h
 | n, m + 1, hle, h => by
   by_cases e : n = m + 1
   · subst e; exact h
   · have := linesAt_none (m := m) (by omega) h
     unfold linesAt
     rw [this]; rfl
def docAt (f : Fun) (id : Int) : Option (Dc × List Dl) := (docHead f id).bind fun d => (linesAt f id d.lines.toNat).map fun l => (d, l)
def docsGetSpec : Vm.Spec := fun args h Q => ∃ (V : VId) (f : Fun) (id : Int), args = [.ptr V.iv 0, .v (.int .i64 id)] ∧ isView h V f ∧
 (∀ d l, docAt f id = some (d, l) → l.length ≤ 6 → d.lines = l.length → Q (.otup 1 true 47 4 (l.map dlAv) [.agg (dcCells d), .any, .v (.bool true)]) h) ∧
 (docAt f id = none → Q (.tup [.agg (dcCells .zero), .v (.slice none 0 0), .v (.bool false)]) h)
theorem headOk_iff {id : Int} {d : Dc} : headOk id d = true ↔ d.id = id ∧ 1 ≤ d.lines ∧ d.lines ≤ 6 := by
 simp [headOk]
theorem docHead_ok {f : Fun} {id : Int} {d : Dc} (h : docHead f id = some d) : d.id = id ∧ 1 ≤ d.lines ∧ d.lines ≤ 6 := by
 unfold docHead at h
 cases h1 : f (dcK id) with
 | none => rw [h1] at h; cases h
 | some v =>
   rw [h1, zRa] at h
   cases h2 : docOf (dcK id) v with
   | none => rw [h2] at h; cases h
   | some d2 =>
     rw [h2, zRa] at h
     split at h
     · rename_i hc; cases h; exact headOk_iff.1 hc
     · cases h
theorem does_docsGet : Does Tryz.prog 123 docsGetSpec := by
 refine does_of_awpO 1 (good_cons does_doc (good_cons does_dline good_nil)) Tryz.func123 rfl (by decide +kernel) (by decide +kernel) ?_
 rintro args h Q ⟨V, f, id, rfl, hV, hq1, hq2⟩
 refine ⟨by simp [Tryz.f123], ?_⟩
 rw [awpFuncO_some (by rfl)]
 unfold docAt at hq1 hq2
 simp only [dcCells, Dc.zero] at hq2
 simp -dsimp only [Vm.G, zA, zB, zC, zD, zE, zF, q123.1]
 refine call_one (S := docSpec) rfl _ GaL.rfl ⟨V, f, id, rfl, hV, fun d hd => ?_, fun hd d => ?_⟩
 · rw [hd] at hq1 hq2
   simp only [zRa] at hq1 hq2
   obtain ⟨-, hd1, hd2⟩ := docHead_ok hd
   simp only [dcCells] at hq1 ⊢
   have hn : ∃ n : Nat, d.lines = n ∧ 1 ≤ n ∧ n ≤ 6 := ⟨d.lines.toNat, by omega, by omega, by omega⟩
   rcases hn with ⟨n, hn, hn1, hn6⟩
   have htn : d.lines.toNat = n := by omega
   rw [htn] at hq1 hq2
   have cz : cst (.agg #[.int .i64 0, .int .i64 0, .int .i64 0, .int .i64 0]) = dlAv .zero := by simp [cst, plain, dlAv, dlCells, Dl.zero]
   simp -dsimp only [Vm.G, zA, zB, zC, zD, zE, zF, q123.1, hn]
   refine make_intro ei43 z47 (.inr ⟨_, rfl, by simp [plain]⟩) (by omega) (Int.le_refl _) (by omega) (by omega) ?_
   rw [cz, zNb]
   simp -dsimp only [Vm.G, zA, zB, zC, zD, zE, zF, q123.1, List.length_replicate]
   refine awp_loop (fun m s h' => ∃ (i : Nat) (l : List Dl), i + m = n ∧ h' = h ∧ linesAt f id i = some l ∧ s = mk [(1, .v (.int .i64 id)), (7, .box [.ptr V.iv 0]), (8, .box [.v (.int .i64 d.id), .v (.int .i64 d.kind), .v (.int .i64 d.year), .v (.int .i64 d.frm), .v (.int .i64 d.lines)]), (10, .own true 47 4 ((l).map dlAv ++ List.replicate (n - (i)) (dlAv .zero))), (29, .v (.int .i64 (n : Nat))), (30, .v (.int .i64 (i : Nat))), (4, .box [.v (.int .i64 0), .v (.int .i64 0), .v (.int .i64 0), .v (.int .i64 0), .v (.int .i64 0)])])
     n _ (le_mk _ ?_) ⟨0, [], by omega, rfl, rfl, rfl⟩ ?_
   · simp only [Vm.D, zRb, zIb, Nat.sub_zero, hn]
     try simp -dsimp only [Vm.G, zA, zB, zC, zD, zE, zF, q123.1, zRb, zIb, Nat.sub_zero, hn]
     repeat' first | exact .refl _ | exact .nil _ _ _ (by decide) | refine ⟨?_, ?_⟩
   · rintro m s h' ⟨i, l, hi, rfl, hli, rfl⟩
     simp -dsimp only [Vm.G, zA, zB, zC, zD, zE, zF, q123.1]
     refine cond_intro (fun hcc => ?_) (fun hcc => ?_)
     · have hlt : i < n := by have := of_decide_eq_true hcc; omega
       have hw := hwN i (by omega)
       have hll := linesAt_length hli
       have hsuc : linesAt f id (i + 1) = (lineAt f id i).map fun x => l ++ [x] := by
         show (linesAt f id i).bind _ = _
         rw [hli]; rfl
       simp -dsimp only [Vm.G, zA, zB, zC, zD, zE, zF, q123.1]
       refine call_one (S := dlineSpec) rfl _ GaL.rfl ⟨V, f, id, (i : Nat), rfl, hV, fun x hx => ?_, fun hx => ?_⟩
       · rw [hx] at hsuc
         have hsuc : linesAt f id (i + 1) = some (l ++ [x]) := hsuc
         have hgi : (l.map dlAv ++ List.replicate (n - i) (dlAv .zero))[i]? = some (dlAv .zero) := by
           rw [zVa (by simp; omega), zJa, hll, Nat.sub_self, List.getElem?_replicate, if_pos (by omega)]
         have hre : (l.map dlAv ++ List.replicate (n - i) (dlAv .zero)).set i (dlAv x) = (l ++ [x]).map dlAv ++ List.replicate (n - (i + 1)) (dlAv .zero) := by
           rw [List.set_append_right _ _ (by simp; omega), zJa, hll, Nat.sub_self, show n - i = (n - (i + 1)) + 1 by omega, List.replicate_succ, List.set_cons_zero]
           simp
         simp only [dlCells]
         simp -dsimp only [Vm.G, zA, zB, zC, zD, zE, zF, q123.1]
         refine idxO_intro (by omega) (by simp; omega) ?_
         simp -dsimp only [Vm.G, zA, zB, zC, zD, zE, zF, q123.1, zNb]
         refine store_elt 47 _ (by simp -dsimp only [Vm.E, zA, zB, zC, zD, zE, zG, zH]) (y := dlAv .zero) hgi rfl rfl (by omega) rfl ?_
         simp only [dlAv, dlCells, AV.cells, putCells, reCell, List.take_zero, zIb, zIa, zPa, Nat.zero_add, Nat.reduceAdd, List.drop_succ_cons, List.drop_zero, zQa, List.drop_nil]
         simp only [dlAv, dlCells] at hre
         simp -dsimp only [Vm.G, zA, zB, zC, zD, zE, zF, q123.1, hre]
         refine kept_intro ⟨n - (i + 1), by omega, _, le_mk [(1, .v (.int .i64 id)), (7, .box [.ptr V.iv 0]), (8, .box [.v (.int .i64 d.id), .v (.int .i64 d.kind), .v (.int .i64 d.year), .v (.int .i64 d.frm), .v (.int .i64 d.lines)]), (10, .own true 47 4 ((l ++ [x]).map dlAv ++ List.replicate (n - (i + 1)) (dlAv .zero))), (29, .v (.int .i64 (n : Nat))), (30, .v (.int .i64 (i + 1 : Nat))), (4, .box [.v (.int .i64 0), .v (.int .i64 0), .v (.int .i64 0), .v (.int .i64 0), .v (.int .i64 0)])] ?_, i + 1, l ++ [x], by omega, rfl, hsuc, rfl⟩
         simp only [Vm.D, hw, dlAv, dlCells]
         try simp -dsimp only [Vm.G, zA, zB, zC, zD, zE, zF, q123.1, hw, dlAv, dlCells]
         repeat' first | exact .refl _ | exact .nil _ _ _ (by decide) | refine ⟨?_, ?_⟩
       · rw [hx] at hsuc
         rw [linesAt_none (m := n) (by omega) hsuc] at hq2
         simp only [dlCells]
         simp -dsimp only [Vm.G, zA, zB, zC, zD, zE, zF, q123.1]
         exact hq2 rfl
     · have hge : ¬ i < n := by have := of_decide_eq_false hcc; omega
       obtain rfl : i = n := by omega
       rw [hli] at hq1
       have hll := linesAt_length hli
       have hq := hq1 d l rfl (by omega) (by omega)
       clear hq1 hq2
       rw [Nat.sub_self, List.replicate_zero, zQa]
       simp -dsimp only [Vm.G, zA, zB, zC, zD, zE, zF, q123.1]
       exact hq
 · rw [hd] at hq2
   simp only [dcCells]
   simp -dsimp only [Vm.G, zA, zB, zC, zD, zE, zF, q123.1]
   exact hq2 rfl
def docsSet (f : Fun) (id i : Int) (x : Dl) : Fun × Int := match docAt f id with
 | some (_, l) => if 0 ≤ i ∧ i < l.length then (upd f (dlK id i) (some (dlV x)), 0) else (f, 7)
 | none => (f, 7)
def docsSetSpec : Vm.Spec := fun args h Q => ∃ (V : VId) (f : Fun) (id i : Int) (x : Dl), I64 id ∧ I64 i ∧ x.ok ∧ args = [.ptr V.iv 0, .v (.int .i64 id), .v (.int .i64 i), dlAv x] ∧ isView h V f ∧
 ∀ h', isView h' V (docsSet f id i x).1 → Same h h' [V.ic] → Q (.v (.int .i64 (docsSet f id i x).2)) h'
theorem does_docsSet : Does Tryz.prog 176 docsSetSpec := by
 refine dA (good_cons does_docsGet (good_cons does_recDl (good_cons does_dset good_nil))) Tryz.func176 rfl (by decide +kernel) ?_
 rintro args h Q ⟨V, f, id, i, x, hid, hii, hx, rfl, hV, hq⟩
 refine ⟨by simp [Tryz.f176], ?_⟩
 unfold docsSet at hq
 simp only [dlAv, dlCells]
 simp -dsimp only [Vm.G, zA, zB, zC, zD, zE, zF, q176.1]
 refine call_one (S := docsGetSpec) rfl _ GaL.rfl ⟨V, f, id, rfl, hV, fun d l hd hl6 hdl => ?_, fun hd => ?_⟩
 · rw [hd] at hq
   simp only [dcCells] at hq ⊢
   simp -dsimp only [Vm.G, zA, zB, zC, zD, zE, zF, q176.1]
   have hd1 := zLb (decide (i < 0))
   rcases hd1 with c1 | c1
   · have d1 := of_decide_eq_true c1
     rw [if_neg (by omega)] at hq
     simp -dsimp only [Vm.G, zA, zB, zC, zD, zE, zF, q176.1, c1]
     exact hq h hV (.refl _ _)
   · have d1 := of_decide_eq_false c1
     have hd2 := zLb (decide (i ≥ (l.length : Int)))
     rcases hd2 with c2 | c2
     · have d2 := of_decide_eq_true c2
       rw [if_neg (by omega)] at hq
       simp -dsimp only [Vm.G, zA, zB, zC, zD, zE, zF, q176.1, c1, c2, zJa]
       exact hq h hV (.refl _ _)
     · have d2 := of_decide_eq_false c2
       rw [if_pos (by omega)] at hq
       simp -dsimp only [Vm.G, zA, zB, zC, zD, zE, zF, q176.1, c1, c2, zJa]
       refine call_one (S := rdlSpec) rfl _ GaL.rfl ⟨id, i, x, hid, hii, hx, rfl, ?_⟩
       simp -dsimp only [Vm.G, zA, zB, zC, zD, zE, zF, q176.1]
       refine call_one (S := dsetSpec) rfl _ GaL.rfl ⟨V, f, dlK id i, dlV x, rfl, right_dl id i x, hV, fun h2 g1 g2 => ?_⟩
       simp -dsimp only [Vm.G, zA, zB, zC, zD, zE, zF, q176.1]
       exact hq h2 g1 g2
 · rw [hd] at hq
   simp only [dcCells, Dc.zero] at hq ⊢
   simp -dsimp only [Vm.G, zA, zB, zC, zD, zE, zF, q176.1]
   exact hq h hV (.refl _ _)
def openD (x : Dl) : Int := w64 (x.orig - w64 (x.liq + x.can))
def openDSpec : Vm.Spec := fun args h Q => ∃ x : Dl, args = [dlAv x] ∧ Q (.v (.int .i64 (openD x))) h
theorem does_docsOpen : Does Tryz.prog 175 openDSpec := by
 refine dA good_nil Tryz.func175 rfl (by decide +kernel) ?_
 rintro args h Q ⟨x, rfl, hq⟩
 refine ⟨by simp [Tryz.f175], ?_⟩
 simp only [dlAv, dlCells]
 simp -dsimp only [Vm.G, zA, zB, zC, zD, zE, zF, q175.1]
 exact hq
theorem chargeRun_n (c : Chg) : ∀ (l : List Nd) (f : Fun) (w : Bool), (chargeRun c l f w).1.n ≤ f.n + l.length
 | [], f, w => zLa _
 | n :: r, f, w => by
   unfold chargeRun
   split
   · exact zMb _ _
   · have := chargeRun_n c r (upd f (ndK (atOf c n).1) (some (ndV (atOf c n).1))) (w || (atOf c n).2.1)
     have e : (upd f (ndK (atOf c n).1) (some (ndV (atOf c n).1))).n = f.n + 1 := rfl
     rw [e] at this
     rw [zIa]; omega
theorem chargeOf_n (f : Fun) (year id : Int) (c : Chg) : (chargeOf f year id c).1.n ≤ f.n + 8 := by
 unfold chargeOf
 split
 · exact zMb _ _
 · split
   · exact zMb _ _
   · have := chargeRun_n c (pathOf f year 8 id) f false
     have := pathOf_length f year 8 id
     omega
def chargeG (mk : Dl → Chg) (year : Int) : List Dl → Fun → Bool → Fun × Bool × Int
 | [], f, w => (f, w, 0)
 | x :: r, f, w => if (chargeOf f year x.node (mk x)).2.2 ≠ 0 then ((chargeOf f year x.node (mk x)).1, false, (chargeOf f year x.node (mk x)).2.2)
   else chargeG mk year r (chargeOf f year x.node (mk x)).1 (w || (chargeOf f year x.node (mk x)).2.1)
theorem chargeG_cons (mk : Dl → Chg) (year : Int) (x : Dl) (r : List Dl) (f : Fun) (w : Bool) : chargeG mk year (x :: r) f w = if (chargeOf f year x.node (mk x)).2.2 ≠ 0 then ((chargeOf f year x.node (mk x)).1, false, (chargeOf f year x.node (mk x)).2.2)
   else chargeG mk year r (chargeOf f year x.node (mk x)).1 (w || (chargeOf f year x.node (mk x)).2.1) := rfl
theorem chargeG_n (mk : Dl → Chg) (year : Int) : ∀ (l : List Dl) (f : Fun) (w : Bool), (chargeG mk year l f w).1.n ≤ f.n + 8 * l.length
 | [], f, w => zLa _
 | x :: r, f, w => by
   have h1 := chargeOf_n f year x.node (mk x)
   rw [chargeG_cons]
   split
   · show (chargeOf f year x.node (mk x)).1.n ≤ _
     rw [zIa]; omega
   · have := chargeG_n mk year r (chargeOf f year x.node (mk x)).1 (w || (chargeOf f year x.node (mk x)).2.1)
     rw [zIa]; omega
theorem putLines_bound (id : Int) : ∀ (l : List Dl) (i : Nat) (f : Fun), (putLines id i l f).n = f.n + l.length
 | [], _, _ => rfl
 | x :: r, i, f => by
   show (putLines id (i + 1) r (upd f (dlK id i) (some (dlV x)))).n = _
   rw [putLines_bound id r (i + 1)]
   show f.n + 1 + r.length = f.n + (r.length + 1)
   omega
theorem docsPut_n (f : Fun) (d : Dc) (l : List Dl) : (docsPut f d l).1.n ≤ f.n + 8 := by
 unfold docsPut
 split
 · exact zMb _ _
 · split
   · exact zMb _ _
   · show (putLines _ 0 l (upd f (seqKey 2) _)).n + 1 ≤ _
     rw [putLines_bound]
     show f.n + 1 + l.length + 1 ≤ _
     omega
theorem preCheck_len {l : List Ln} (h : ¬ preCheck l ≠ 0) : l.length ≤ 6 := by
 unfold preCheck at h
 split at h
 · simp at h
 · rename_i h2; omega
def ownAt (f : Fun) (frm : Int) : List Dl := match docAt f frm with
 | some (_, l) => l
 | none => []
def takeOne (f : Fun) (frm : Int) (x : Ln) : Fun × Dl × Int :=
 if x.node < 0 then (f, .zero, 7)
 else match (ownAt f frm)[x.node.toNat]? with
   | none => (f, .zero, 7)
   | some y => if openD y < x.amt then (f, .zero, 12)
     else (upd f (dlK frm x.node) (some (dlV { y with liq := w64 (y.liq + x.amt) })), ⟨y.node, x.amt, 0, 0⟩, 0)
def takeL (frm : Int) : List Ln → Fun → List Dl → Fun × List Dl × Int
 | [], f, out => (f, out, 0)
 | x :: r, f, out => if (takeOne f frm x).2.2 ≠ 0 then ((takeOne f frm x).1, [], (takeOne f frm x).2.2)
   else takeL frm r (takeOne f frm x).1 (out ++ [(takeOne f frm x).2.1])
theorem takeL_cons (frm : Int) (x : Ln) (r : List Ln) (f : Fun) (out : List Dl) : takeL frm (x :: r) f out = if (takeOne f frm x).2.2 ≠ 0 then ((takeOne f frm x).1, [], (takeOne f frm x).2.2)
   else takeL frm r (takeOne f frm x).1 (out ++ [(takeOne f frm x).2.1]) := rfl
def takeOf (f : Fun) (kind year frm : Int) (l : List Ln) : Fun × List Dl × Int := match docAt f frm with
 | none => (f, [], 7)
 | some (d, _) => if d.kind ≠ kind ∨ d.year ≠ year then (f, [], 12) else takeL frm l f []
theorem takeOne_n (f : Fun) (frm : Int) (x : Ln) : (takeOne f frm x).1.n ≤ f.n + 1 := by
 unfold takeOne
 split
 · exact Nat.le_succ _
 · split
   · exact Nat.le_succ _
   · split
     · exact Nat.le_succ _
     · exact zLa _
theorem takeL_n (frm : Int) : ∀ (l : List Ln) (f : Fun) (out : List Dl), (takeL frm l f out).1.n ≤ f.n + l.length ∧ (takeL frm l f out).2.1.length ≤ out.length + l.length
 | [], f, out => ⟨zLa _, zLa _⟩
 | x :: r, f, out => by
   have h1 := takeOne_n f frm x
   rw [takeL_cons]
   split
   · exact ⟨by rw [zIa]; show (takeOne f frm x).1.n ≤ _; omega, by simp⟩
   · have := takeL_n frm r (takeOne f frm x).1 (out ++ [(takeOne f frm x).2.1])
     rw [zOb] at this
     simp only [zIa, zPa] at this ⊢
     omega
theorem takeOf_n (f : Fun) (kind year frm : Int) (l : List Ln) : (takeOf f kind year frm l).1.n ≤ f.n + l.length ∧ (takeOf f kind year frm l).2.1.length ≤ l.length := by
 unfold takeOf
 split
 · exact ⟨zMb _ _, by simp⟩
 · split
   · exact ⟨zMb _ _, by simp⟩
   · have := takeL_n frm l f []
     simpa using this
def linesFrom (f : Fun) (year frm : Int) (l : List Ln) : Fun × List Dl × Int := if frm ≠ 0 then takeOf f 1 year frm l else (f, ownL l, 0)
theorem lineOf_ok {key val : List UInt8} {n : Dl} (h : lineOf key val = some n) : n.ok := by
 unfold lineOf at h
 cases hl : numsPair 76 2 4 key val with
 | none => rw [hl] at h; cases h
 | some l =>
   rw [hl] at h
   cases h
   have := numsPair_i64 hl
   exact ⟨i64_getD this 2, i64_getD this 3, i64_getD this 4, i64_getD this 5⟩
theorem lineAt_ok {f : Fun} {id i : Int} {x : Dl} (h : lineAt f id i = some x) : x.ok := by
 unfold lineAt at h
 cases h1 : f (dlK id i) with
 | none => rw [h1] at h; cases h
 | some v => rw [h1, zRa] at h; exact lineOf_ok h
theorem linesAt_ok {f : Fun} {id : Int} : ∀ {n : Nat} {l : List Dl}, linesAt f id n = some l → ∀ x ∈ l, x.ok
 | 0, l, h => by cases h; simp
 | n + 1, l, h => by
   unfold linesAt at h
   cases h1 : linesAt f id n with
   | none => rw [h1] at h; cases h
   | some l1 =>
     rw [h1] at h
     cases h2 : lineAt f id n with
     | none => rw [zRa, h2] at h; cases h
     | some x =>
       rw [zRa, h2] at h
       cases h
       intro y hy
       rcases zKb.1 hy with hy | hy
       · exact linesAt_ok h1 y hy
       · rw [zNa] at hy; subst hy; exact lineAt_ok h2
theorem docAt_ok {f : Fun} {id : Int} {d : Dc} {l : List Dl} (h : docAt f id = some (d, l)) : ∀ x ∈ l, x.ok := by
 unfold docAt at h
 cases h1 : docHead f id with
 | none => rw [h1] at h; cases h
 | some d1 =>
   rw [h1, zRa] at h
   cases h2 : linesAt f id d1.lines.toNat with
   | none => rw [h2] at h; cases h
   | some l1 =>
     rw [h2] at h
     cases h
     exact linesAt_ok h2
theorem ownAt_some {f : Fun} {id : Int} {d : Dc} {l : List Dl} (h : docAt f id = some (d, l)) : ownAt f id = l := by unfold ownAt; rw [h]
theorem ownAt_none {f : Fun} {id : Int} (h : docAt f id = none) : ownAt f id = [] := by unfold ownAt; rw [h]
theorem ownAt_ok (f : Fun) (id : Int) : ∀ x ∈ ownAt f id, x.ok := by
 unfold ownAt
 split
 · rename_i h; exact docAt_ok h
 · simp
theorem docsSet_own {f : Fun} {id i : Int} (x : Dl) (h0 : 0 ≤ i) (hi : i < (ownAt f id).length) : docsSet f id i x = (upd f (dlK id i) (some (dlV x)), 0) := by
 cases hd : docAt f id with
 | none =>
   rw [ownAt_none hd] at hi
   simp at hi
   omega
 | some p =>
   obtain ⟨d, l⟩ := p
   rw [ownAt_some hd] at hi
   unfold docsSet
   rw [hd]
   simp only
   rw [if_pos ⟨h0, hi⟩]
theorem Dl.zero_ok : Dl.zero.ok := by simp [Dl.ok, Dl.zero, I64]
theorem takeOne_ok (f : Fun) (frm : Int) (x : Ln) (hx : x.ok) : (takeOne f frm x).2.1.ok := by
 unfold takeOne
 split
 · exact Dl.zero_ok
 · split
   · exact Dl.zero_ok
   · rename_i y hy
     split
     · exact Dl.zero_ok
     · have hyo := ownAt_ok f frm y (List.mem_of_getElem? hy)
       have z : I64 0 := by unfold I64; omega
       exact ⟨hyo.1, hx.2.2.2, z, z⟩
theorem takeL_ok (frm : Int) : ∀ (l : List Ln) (f : Fun) (out : List Dl), (∀ x ∈ l, x.ok) → (∀ x ∈ out, x.ok) → ∀ x ∈ (takeL frm l f out).2.1, x.ok
 | [], _, _, _, h => h
 | x :: r, f, out, hl, ho => by
   rw [takeL_cons]
   split
   · simp
   · refine takeL_ok frm r _ _ (fun y hy => hl y (zMa _ hy)) fun y hy => ?_
     rcases zKb.1 hy with hy | hy
     · exact ho y hy
     · rw [zNa] at hy; subst hy; exact takeOne_ok f frm x (hl x (zKa ..))
theorem takeOf_ok (f : Fun) (kind year frm : Int) (l : List Ln) (hl : ∀ x ∈ l, x.ok) : ∀ x ∈ (takeOf f kind year frm l).2.1, x.ok := by
 unfold takeOf
 split
 · simp
 · split
   · simp
   · exact takeL_ok frm l f [] hl (by simp)
theorem nodeOf_clamp {y i : Int} {v : List UInt8} {n : Nd} (h : nodeOf (keyOf 78 [y, i]) v = some n) : n.year = clampK y ∧ n.id = clampK i := by
 unfold nodeOf numsPair at h
 rw [splitOf_key 78 [y, i] (by simp)] at h
 simp only [zSb, zRb] at h
 split at h
 · cases h; exact ⟨rfl, rfl⟩
 · cases h
theorem nodeAt_some {f : Fun} {y i : Int} {n : Nd} (h : nodeAt f y i = some n) : n.year = y ∧ n.id = i ∧ InR y ∧ InR i ∧ ∃ v, f (ndK n) = some v ∧ nodeOf (ndK n) v = some n := by
 unfold nodeAt at h
 split at h
 · cases h
 · rename_i v hv
   split at h
   · rename_i m hm
     split at h
     · rename_i hc
       cases h
       obtain ⟨h1, h2⟩ := nodeOf_clamp hm
       have e : ndK n = keyOf 78 [y, i] := by unfold ndK ndKey; rw [hc.1, hc.2]
       have r1 := clampK_range y
       have r2 := clampK_range i
       rw [← h1, hc.1] at r1
       rw [← h2, hc.2] at r2
       exact ⟨hc.1, hc.2, r1, r2, v, by rw [e]; exact hv, by rw [e]; exact hm⟩
     · cases h
   · cases h
theorem pathOf_at (f : Fun) (y : Int) : ∀ (k : Nat) (i : Int), ∀ n ∈ pathOf f y k i, nodeAt f y n.id = some n
 | 0, i, n, hn => by simp [pathOf] at hn
 | k + 1, i, n, hn => by
   simp only [pathOf] at hn
   split at hn
   · cases hn
   · rename_i m hm
     rcases zOa.1 hn with rfl | hn
     · have := (nodeAt_some hm).2.1
       rw [this]; exact hm
     · split at hn
       · cases hn
       · exact pathOf_at f y k _ n hn
theorem run_done (c : Chg) : ∀ (p : List Nd) (f : Fun) (w : Bool), (chargeRun c p f w).2.2 = 0 →
   (∀ n ∈ p, (atOf c n).2.2 = 0 ∧ ((atOf c n).2.1 = true → (chargeRun c p f w).2.1 = true)) ∧ (w = true → (chargeRun c p f w).2.1 = true) ∧
     ∀ k, (∃ n ∈ p, k = ndK n ∧ (chargeRun c p f w).1 k = some (ndV (addC c n))) ∨ ((∀ n ∈ p, k ≠ ndK n) ∧ (chargeRun c p f w).1 k = f k)
 | [], f, w, _ => ⟨by simp, fun h => h, fun k => .inr ⟨by simp, rfl⟩⟩
 | n :: r, f, w, h => by
   unfold chargeRun at h ⊢
   by_cases he : (atOf c n).2.2 ≠ 0
   · rw [if_pos he] at h
     exact absurd h he
   · rw [if_neg he] at h ⊢
     have he0 : (atOf c n).2.2 = 0 := by simpa using he
     have ha : (atOf c n).1 = addC c n := by
       revert he0
       unfold atOf
       repeat' split
       all_goals intro h9; first | rfl | (exfalso; simp at h9)
     obtain ⟨i1, i2, i3⟩ := run_done c r _ _ h
     rw [ha] at h i1 i2 i3 ⊢
     refine ⟨fun m hm => ?_, fun hw => i2 (by rw [hw]; rfl), fun k => ?_⟩
     · rcases zOa.1 hm with rfl | hm
       · exact ⟨he0, fun ht => i2 (by rw [ht]; cases w <;> rfl)⟩
       · exact i1 m hm
     · rcases i3 k with ⟨m, hm, e1, e2⟩ | ⟨e1, e2⟩
       · exact .inl ⟨m, zMa _ hm, e1, e2⟩
       · by_cases hk : k = ndK n
         · refine .inl ⟨n, zKa .., hk, ?_⟩
           rw [e2, upd_app, if_pos]
           rw [hk]; rfl
         · refine .inr ⟨fun m hm => ?_, ?_⟩
           · rcases zOa.1 hm with rfl | hm
             · exact hk
             · exact e1 m hm
           · rw [e2, upd_app, if_neg]
             intro e; exact hk e
inductive All2 (R : Nd → Nd → Prop) : List Nd → List Nd → Prop
 | nil : All2 R [] []
 | cons {a b : Nd} {l l' : List Nd} (h : R a b) (t : All2 R l l') : All2 R (a :: l) (b :: l')
theorem All2.len {R : Nd → Nd → Prop} : ∀ {l l' : List Nd}, All2 R l l' → l.length = l'.length
 | _, _, .nil => rfl
 | _, _, .cons _ t => by rw [zIa, zIa, t.len]
theorem All2.get {R : Nd → Nd → Prop} : ∀ {l l' : List Nd}, All2 R l l' → ∀ (i : Nat) (h1 : i < l.length) (h2 : i < l'.length), R l[i] l'[i]
 | _, _, .cons h _, 0, _, _ => h
 | _, _, .cons _ t, i + 1, h1, h2 => t.get i (by simpa using h1) (by simpa using h2)
theorem addC_key (c : Chg) (n : Nd) : ndK (addC c n) = ndK n := rfl
theorem putLines_other (id : Int) : ∀ (l : List Dl) (i : Nat) (f : Fun) (k : List UInt8), (∀ j, j < l.length → k ≠ dlK id ((i + j : Nat) : Int)) → putLines id i l f k = f k
 | [], _, _, _, _ => rfl
 | x :: r, i, f, k, h => by
   have h0 := h 0 (by simp)
   show putLines id (i + 1) r (upd f (dlK id i) (some (dlV x))) k = f k
   rw [putLines_other id r (i + 1) _ k fun j hj => by
     have := h (j + 1) (by simpa using hj)
     rwa [show i + (j + 1) = i + 1 + j by omega] at this]
   rw [upd_app, if_neg (by simpa using h0)]
theorem pre_head {t : UInt8} {l : List Int} {k : List UInt8} (h : (keyOf t l).isPrefixOf k = true) : ∃ r, k = t :: r := by
 unfold keyOf at h
 cases k with
 | nil => simp at h
 | cons a r =>
   simp only [List.isPrefixOf, Bool.and_eq_true, beq_iff_eq] at h
   exact ⟨r, by rw [h.1]⟩
theorem docsF_other (f : Fun) (id : Int) (d : Dc) (l : List Dl) {k : List UInt8} (h1 : k ≠ dcK id) (h2 : ∀ j : Int, k ≠ dlK id j) (h3 : k ≠ seqKey 2) : docsF f id d l k = f k := by
 unfold docsF
 rw [upd_app, if_neg h1, putLines_other id l 0 _ k fun j _ => h2 _, upd_app, if_neg h3]
theorem docsF_node (f : Fun) (id : Int) (d : Dc) (l : List Dl) {y : Int} {k : List UInt8} (h : (keyOf 78 [y]).isPrefixOf k = true) : docsF f id d l k = f k := by
 obtain ⟨r, rfl⟩ := pre_head h
 have ne : ∀ {t : UInt8} {a : List Int}, t ≠ 78 → (78 :: r : List UInt8) ≠ keyOf t a := fun ht e => ht (List.cons.inj e).1.symm
 exact docsF_other f id d l (ne (by decide)) (fun j => ne (by decide)) (ne (by decide))
theorem chargeOf_other {f : Fun} {y i : Int} {c : Chg} (he : (chargeOf f y i c).2.2 = 0) {k : List UInt8} (hk : ∀ m : Nd, k ≠ ndK m) : (chargeOf f y i c).1 k = f k := by
 unfold chargeOf at he ⊢
 split
 · rfl
 · rename_i h0
   rw [if_neg h0] at he
   split
   · rfl
   · rename_i h1
     rw [if_neg h1] at he
     obtain ⟨-, -, i3⟩ := run_done c _ f false he
     rcases i3 k with ⟨n, -, e, -⟩ | ⟨-, e⟩
     · exact absurd e (hk n)
     · exact e
end Go.Proofs.Lx
namespace Go.Proofs.Lx
open Go.Vm
theorem tot_bound {α : Type} {g : α → Int} {B : Int} : ∀ {l : List α}, (∀ x ∈ l, -B ≤ g x ∧ g x ≤ B) → -((l.length : Int) * B) ≤ tot g l ∧ tot g l ≤ (l.length : Int) * B
 | [], _ => by simp [tot]
 | x :: r, h => by
   have ih := tot_bound (l := r) fun y hy => h y (zMa _ hy)
   have hx := h x (zKa ..)
   have e : ((x :: r).length : Int) * B = (r.length : Int) * B + B := by
     rw [zIa]
     push_cast
     rw [Int.add_mul, Int.one_mul]
   rw [e]
   show -((r.length : Int) * B + B) ≤ g x + tot g r ∧ g x + tot g r ≤ _
   omega
def BIG : Int := 180143985094819840
theorem sumF_exact {k : List Ln} (h : ∀ x ∈ k, -BIG ≤ x.amt ∧ x.amt ≤ BIG) (hl : k.length ≤ 21) (φ : Int) :
   sumF k φ = tot (fun x => if x.fund = φ then x.amt else 0) k ∧ -4611686018427387904 ≤ sumF k φ ∧ sumF k φ ≤ 4611686018427387904 := by
 have e : sumF k φ = w64 (tot (fun x => if x.fund = φ then x.amt else 0) k) := by
   unfold sumF
   rw [w64s_tot, tot_filter]
   congr 1
   refine tot_congr fun x _ => ?_
   by_cases hx : x.fund = φ
   · rw [if_pos hx, if_pos (by simpa using hx)]
   · rw [if_neg hx, if_neg (by simpa using hx)]
 have hb := tot_bound (g := fun x : Ln => if x.fund = φ then x.amt else 0) (B := BIG) (l := k) fun x hx => by
   have := h x hx
   show -BIG ≤ (if x.fund = φ then x.amt else 0) ∧ (if x.fund = φ then x.amt else 0) ≤ BIG
   unfold BIG at *
   split <;> omega
 have hm : (k.length : Int) * BIG ≤ 21 * BIG := Int.mul_le_mul_of_nonneg_right (by omega) (by unfold BIG; omega)
 unfold BIG at *
 have e2 : w64 (tot (fun x : Ln => if x.fund = φ then x.amt else 0) k) = tot (fun x => if x.fund = φ then x.amt else 0) k := wrap_i64 (by omega) (by omega)
 rw [e, e2]
 refine ⟨rfl, by omega, by omega⟩
def EvenT (T : List Ln) : Prop := (∀ a, tot (fun x => if clampK x.fund = a then x.amt else 0) T = 0) ∧
 tot (fun x => if clampK x.obj = 1900 then x.amt else 0) T + tot (fun x => if clampK x.obj = 2900 then x.amt else 0) T = 0
theorem even_nil : EvenT [] := ⟨fun _ => rfl, rfl⟩
theorem EvenT.append {T U : List Ln} (h : EvenT T) (h' : EvenT U) : EvenT (T ++ U) := by
 refine ⟨fun a => ?_, ?_⟩
 · rw [tot_append, h.1, h'.1]; rfl
 · rw [tot_append, tot_append]
   have := h.2
   have := h'.2
   omega
theorem tot_dec (p : Ln → Prop) [DecidablePred p] (L : List Ln) : tot (fun x => if decide (p x) = true then x.amt else 0) L = tot (fun x => if p x then x.amt else 0) L := tot_congr fun x _ => by by_cases h : p x <;> simp [h]
theorem right_stands {y : Int} {T : List Ln} {f : Fun} {l : List KV} (hy : InR y) (h : Stands y T f) (he : EvenT T) (hl : ScanIs f (keyOf 66 [y]) l) : rightT (allB y l) = true := by
 refine right_of (allB_sorted hy h hl) (fun a => ?_) ?_
 · have e := allB_tot hy h hl fun k => decide (k.1 = a)
   have e' : tot (fun x : Ln => if x.fund = a then x.amt else 0) (allB y l) = tot (fun x => if clampK x.fund = a then x.amt else 0) T := (tot_dec (fun x => x.fund = a) _).symm.trans (e.trans (tot_dec (fun x => clampK x.fund = a) T))
   rw [e']; exact he.1 a
 · have e1 := allB_tot hy h hl fun k => decide (k.2 = 1900)
   have e2 := allB_tot hy h hl fun k => decide (k.2 = 2900)
   have e1' : tot (fun x : Ln => if x.obj = 1900 then x.amt else 0) (allB y l) = tot (fun x => if clampK x.obj = 1900 then x.amt else 0) T := (tot_dec (fun x => x.obj = 1900) _).symm.trans (e1.trans (tot_dec (fun x => clampK x.obj = 1900) T))
   have e2' : tot (fun x : Ln => if x.obj = 2900 then x.amt else 0) (allB y l) = tot (fun x => if clampK x.obj = 2900 then x.amt else 0) T := (tot_dec (fun x => x.obj = 2900) _).symm.trans (e2.trans (tot_dec (fun x => clampK x.obj = 2900) T))
   rw [e1', e2']; exact he.2
theorem stands_upd {y : Int} {T : List Ln} {f : Fun} {q : List UInt8} {v : Option (List UInt8)} {t : UInt8} {a : List Int} (hq : q = keyOf t a) (ht : t ≠ 66) (h : Stands y T f) : Stands y T (upd f q v) :=
 stands_congr h (fun k hk => by
   obtain ⟨r, rfl⟩ := pre_head hk
   rw [upd_app, if_neg]
   rw [hq]
   exact fun e => ht (List.cons.inj e).1.symm) (bal_pre y)
def jK (id i : Int) : List UInt8 := keyOf 74 [id, i]
def jV (x : Ln) : List UInt8 := packs 8 [x.fund, x.obj, x.amt]
def postL (y id : Int) : Nat → List Ln → Fun → Fun × Int
 | _, [], f => (f, 0)
 | i, x :: r, f => if (balAdd (upd f (jK id i) (some (jV x))) (balK y x.fund x.obj) x.amt).2 ≠ 0 then balAdd (upd f (jK id i) (some (jV x))) (balK y x.fund x.obj) x.amt
   else postL y id (i + 1) r (balAdd (upd f (jK id i) (some (jV x))) (balK y x.fund x.obj) x.amt).1
theorem post_stands {y id : Int} : ∀ {A : List Ln} {i : Nat} {T : List Ln} {f : Fun}, Stands y T f → (postL y id i A f).2 = 0 → Stands y (T ++ A) (postL y id i A f).1
 | [], i, T, f, h, _ => by rw [zQa]; exact h
 | x :: r, i, T, f, h, he => by
   unfold postL at he ⊢
   by_cases hc : (balAdd (upd f (jK id i) (some (jV x))) (balK y x.fund x.obj) x.amt).2 ≠ 0
   · rw [if_pos hc] at he
     exact absurd he hc
   · rw [if_neg hc] at he ⊢
     have h1 := stands_add (stands_upd (q := jK id i) (t := 74) (a := [id, i]) rfl (by decide) h) (by simpa using hc)
     have := post_stands h1 he
     have e : T ++ x :: r = (T ++ [x]) ++ r := by simp
     rw [e]; exact this
theorem postL_n (y id : Int) : ∀ (A : List Ln) (i : Nat) (f : Fun), (postL y id i A f).1.n ≤ f.n + 2 * A.length
 | [], i, f => zMb _ _
 | x :: r, i, f => by
   unfold postL
   have h1 := balAdd_n (upd f (jK id i) (some (jV x))) (balK y x.fund x.obj) x.amt
   have h2 : (upd f (jK id i) (some (jV x))).n = f.n + 1 := rfl
   rw [zIa]
   split
   · omega
   · have := postL_n y id r (i + 1) (balAdd (upd f (jK id i) (some (jV x))) (balK y x.fund x.obj) x.amt).1
     omega
def enK (id : Int) : List UInt8 := keyOf 69 [id]
def enV (y kind lines of by' : Int) : List UInt8 := packs 8 [y, kind, lines, of, by']
def standF (f : Fun) (y kind of : Int) (all : List Ln) : Fun × Int × Int :=
 if checkY f y ≠ 0 then (f, 0, checkY f y)
 else if readOf f (seqKey 1) < 0 ∨ 4294967294 < readOf f (seqKey 1) then (f, 0, 9)
 else if (postL y (readOf f (seqKey 1) + 1) 0 all (upd f (seqKey 1) (some (be 8 (readOf f (seqKey 1) + 1))))).2 ≠ 0 then
   ((postL y (readOf f (seqKey 1) + 1) 0 all (upd f (seqKey 1) (some (be 8 (readOf f (seqKey 1) + 1))))).1, 0, (postL y (readOf f (seqKey 1) + 1) 0 all (upd f (seqKey 1) (some (be 8 (readOf f (seqKey 1) + 1))))).2)
 else (upd (postL y (readOf f (seqKey 1) + 1) 0 all (upd f (seqKey 1) (some (be 8 (readOf f (seqKey 1) + 1))))).1 (enK (readOf f (seqKey 1) + 1)) (some (enV y kind all.length of 0)), readOf f (seqKey 1) + 1, 0)
def entryF (f : Fun) (y kind of : Int) (l all : List Ln) : Fun × Int × Int := if l.length = 0 ∨ 200 < l.length then (f, 0, 1) else standF f y kind of all
theorem stand_n (f : Fun) (y kind of : Int) (all : List Ln) : (standF f y kind of all).1.n ≤ f.n + 2 * all.length + 2 := by
 unfold standF
 have h := postL_n y (readOf f (seqKey 1) + 1) all 0 (upd f (seqKey 1) (some (be 8 (readOf f (seqKey 1) + 1))))
 have e : (upd f (seqKey 1) (some (be 8 (readOf f (seqKey 1) + 1)))).n = f.n + 1 := rfl
 rw [e] at h
 split
 · show f.n ≤ _; omega
 · split
   · show f.n ≤ _; omega
   · split
     · show (postL _ _ _ _ _).1.n ≤ _; omega
     · show (postL _ _ _ _ _).1.n + 1 ≤ _; omega
theorem entry_n (f : Fun) (y kind of : Int) (l all : List Ln) : (entryF f y kind of l all).1.n ≤ f.n + 2 * all.length + 2 := by
 unfold entryF
 split
 · show f.n ≤ _; omega
 · exact stand_n f y kind of all
theorem entry_stands {f : Fun} {y kind of : Int} {l all T : List Ln} (h : Stands y T f) (he : (entryF f y kind of l all).2.2 = 0) : Stands y (T ++ all) (entryF f y kind of l all).1 := by
 unfold entryF at he ⊢
 split
 · rename_i h0; rw [if_pos h0] at he; simp at he
 · rename_i h0
   rw [if_neg h0] at he
   unfold standF at he ⊢
   split
   · rename_i h1; rw [if_pos h1] at he; exact absurd he h1
   · rename_i h1
     rw [if_neg h1] at he
     split
     · rename_i h2; rw [if_pos h2] at he; simp at he
     · rename_i h2
       rw [if_neg h2] at he
       split
       · rename_i h3; rw [if_pos h3] at he; exact absurd he h3
       · rename_i h3
         have hs := stands_upd (q := seqKey 1) (v := some (be 8 (readOf f (seqKey 1) + 1))) (t := 83) (a := [1]) rfl (by decide) h
         have hp := post_stands (id := readOf f (seqKey 1) + 1) (i := 0) hs (by simpa using h3)
         exact stands_upd (q := enK _) (t := 69) (a := [_]) rfl (by decide) hp
def ObjAll (y : Int) (o : Int) (f : Fun) : Prop := ∀ i n, nodeAt f y i = some n → n.obj = o
theorem obj_congr {y o : Int} {f g : Fun} (h : ObjAll y o f) (he : ∀ i, g (keyOf 78 [y, i]) = f (keyOf 78 [y, i])) : ObjAll y o g := fun i n hn => h i n (by
 unfold nodeAt at hn ⊢
 rw [← he i]; exact hn)
theorem obj_upd {y o : Int} {f : Fun} {q : List UInt8} {v : Option (List UInt8)} {t : UInt8} {a : List Int} (hq : q = keyOf t a) (ht : t ≠ 78) (h : ObjAll y o f) : ObjAll y o (upd f q v) :=
 obj_congr h fun i => by
   rw [upd_app, if_neg]
   rw [hq]
   exact fun e => ht (List.cons.inj e).1.symm
theorem obj_docs {y o : Int} {f : Fun} {d : Dc} {l : List Dl} (h : ObjAll y o f) : ObjAll y o (docsPut f d l).1 := by
 unfold docsPut
 split
 · exact h
 · split
   · exact h
   · exact obj_congr h fun i => docsF_node (y := y) _ _ _ _ (by
       rw [List.isPrefixOf_iff_prefix]
       exact ⟨be 4 (clampK i), by simp [keyOf, packs]⟩)
theorem obj_charge {y o i : Int} {f : Fun} {c : Chg} (h : ObjAll y o f) (he : (chargeOf f y i c).2.2 = 0) : ObjAll y o (chargeOf f y i c).1 := by
 have hat := pathOf_at f y 8 i
 unfold chargeOf at he ⊢
 split
 · exact h
 · rename_i h0
   rw [if_neg h0] at he
   split
   · exact h
   · rename_i h1
     rw [if_neg h1] at he
     obtain ⟨-, -, i3⟩ := run_done c _ f false he
     intro j n hn
     obtain ⟨a1, a2, a3, a4, v, a5, a6⟩ := nodeAt_some hn
     rcases i3 (ndK n) with ⟨m, hm, e1, e2⟩ | ⟨-, e2⟩
     · have hmo := h m.id m (hat m hm)
       have hmk := pathOf_ok f y 8 i m hm
       rw [a5] at e2
       cases e2
       obtain ⟨b1, b2, b3, b4, -⟩ := nodeAt_some (hat m hm)
       rw [e1, ← addC_key c m, nodeOf_put (addC_ok c m hmk) (by show InR m.year; rw [b1]; exact b3) (by show InR m.id; exact b4)] at a6
       cases a6
       exact hmo
     · rw [a5] at e2
       refine h j n ?_
       have hk : keyOf 78 [y, j] = ndK n := by unfold ndK ndKey; rw [a1, a2]
       unfold nodeAt
       rw [hk, ← e2]
       simp only [a6]
       rw [if_pos ⟨a1, a2⟩]
theorem obj_chargeG {y o : Int} {mk : Dl → Chg} : ∀ {l : List Dl} {f : Fun} {w : Bool}, ObjAll y o f → (chargeG mk y l f w).2.2 = 0 → ObjAll y o (chargeG mk y l f w).1
 | [], f, w, h, _ => h
 | x :: r, f, w, h, he => by
   rw [chargeG_cons] at he ⊢
   split
   · rename_i hc; rw [if_pos hc] at he; exact absurd he hc
   · rename_i hc
     rw [if_neg hc] at he
     exact obj_chargeG (obj_charge h (by simpa using hc)) he
def twoL (f : Fun) (y : Int) (x : Dl) : List Ln := match nodeAt f y x.node with
 | some n => [⟨n.fund, n.obj, 0, x.orig⟩, ⟨n.fund, 1010, 0, w64 (0 - x.orig)⟩]
 | none => []
def expLines (f : Fun) (y : Int) (l : List Dl) : List Ln := l.flatMap (twoL f y)
theorem two_len (f : Fun) (y : Int) (x : Dl) : (twoL f y x).length ≤ 2 := by unfold twoL; split <;> simp
theorem exp_len (f : Fun) (y : Int) : ∀ l : List Dl, (expLines f y l).length ≤ 2 * l.length
 | [] => zLa _
 | x :: r => by
   have := exp_len f y r
   have h2 := two_len f y x
   show (twoL f y x ++ expLines f y r).length ≤ _
   rw [zOb, zIa]; omega
theorem two_even {f : Fun} {y : Int} {x : Dl} (hx : 1 ≤ x.orig ∧ x.orig ≤ 9007199254740992) (ho : ObjAll y 5010 f) :
   (∀ z ∈ twoL f y x, (-BIG ≤ z.amt ∧ z.amt ≤ BIG) ∧ z.obj ≠ 1900 ∧ z.obj ≠ 2900) ∧ tot (fun z => z.amt) (twoL f y x) = 0 := by
 have hw : w64 (0 - x.orig) = -x.orig := by
   have : w64 (0 - x.orig) = 0 - x.orig := wrap_i64 (by omega) (by omega)
   omega
 unfold twoL
 split
 · rename_i n hn
   rw [hw]
   refine ⟨fun z hz => ?_, by show x.orig + (-x.orig + 0) = 0; omega⟩
   simp only [zOa, zYa, or_false] at hz
   unfold BIG
   rcases hz with rfl | rfl
   · have e := ho _ _ hn
     exact ⟨by show -180143985094819840 ≤ x.orig ∧ x.orig ≤ 180143985094819840; omega, by show n.obj ≠ 1900; omega, by show n.obj ≠ 2900; omega⟩
   · exact ⟨by show -180143985094819840 ≤ -x.orig ∧ -x.orig ≤ 180143985094819840; omega, by show (1010 : Int) ≠ 1900; decide, by show (1010 : Int) ≠ 2900; decide⟩
 · exact ⟨by simp, rfl⟩
theorem exp_even {f : Fun} {y : Int} {l : List Dl} {r : List Ln} (hl : l.length ≤ 6) (hx : ∀ x ∈ l, 1 ≤ x.orig ∧ x.orig ≤ 9007199254740992) (ho : ObjAll y 5010 f) (hr : IsFunds (expLines f y l) r) : EvenT (expLines f y l ++ balanceL r) := by
 have hle := exp_len f y l
 have hall : ∀ z ∈ expLines f y l, (-BIG ≤ z.amt ∧ z.amt ≤ BIG) ∧ z.obj ≠ 1900 ∧ z.obj ≠ 2900 := fun z hz => by
   obtain ⟨x, hxm, hz⟩ := List.mem_flatMap.1 hz
   exact (two_even (hx x hxm) ho).1 z hz
 refine entry_even hr (sumF_exact (fun z hz => (hall z hz).1) (by omega)) (fun z hz => (hall z hz).2) ?_
 unfold expLines
 rw [tot_flatMap]
 exact tot_zero fun x hxm => (two_even (hx x hxm) ho).2
def linesE (f : Fun) (year frm : Int) (l : List Ln) : Fun × List Dl × Int :=
 if frm = 0 then (f, l.map fun x => ⟨x.node, x.amt, x.amt, 0⟩, 0)
 else ((takeOf f 2 year frm l).1, (takeOf f 2 year frm l).2.1.map fun x => { x with liq := x.orig }, (takeOf f 2 year frm l).2.2)
def mkX (frm : Int) (x : Dl) : Chg := ⟨0, w64 (0 - (if frm ≠ 0 then x.orig else 0)), x.orig⟩
def bookF (f : Fun) (year frm : Int) (l : List Dl) (r : List Ln) : Fun × Int × Int :=
 if (docsPut f ⟨0, 3, year, frm, 0⟩ l).2.2 ≠ 0 then ((docsPut f ⟨0, 3, year, frm, 0⟩ l).1, 0, (docsPut f ⟨0, 3, year, frm, 0⟩ l).2.2)
 else if (entryF (docsPut f ⟨0, 3, year, frm, 0⟩ l).1 year 3 (docsPut f ⟨0, 3, year, frm, 0⟩ l).2.1 (expLines (docsPut f ⟨0, 3, year, frm, 0⟩ l).1 year l) (expLines (docsPut f ⟨0, 3, year, frm, 0⟩ l).1 year l ++ balanceL r)).2.2 ≠ 0 then
   ((entryF (docsPut f ⟨0, 3, year, frm, 0⟩ l).1 year 3 (docsPut f ⟨0, 3, year, frm, 0⟩ l).2.1 (expLines (docsPut f ⟨0, 3, year, frm, 0⟩ l).1 year l) (expLines (docsPut f ⟨0, 3, year, frm, 0⟩ l).1 year l ++ balanceL r)).1, 0,
     (entryF (docsPut f ⟨0, 3, year, frm, 0⟩ l).1 year 3 (docsPut f ⟨0, 3, year, frm, 0⟩ l).2.1 (expLines (docsPut f ⟨0, 3, year, frm, 0⟩ l).1 year l) (expLines (docsPut f ⟨0, 3, year, frm, 0⟩ l).1 year l ++ balanceL r)).2.2)
 else ((entryF (docsPut f ⟨0, 3, year, frm, 0⟩ l).1 year 3 (docsPut f ⟨0, 3, year, frm, 0⟩ l).2.1 (expLines (docsPut f ⟨0, 3, year, frm, 0⟩ l).1 year l) (expLines (docsPut f ⟨0, 3, year, frm, 0⟩ l).1 year l ++ balanceL r)).1, (docsPut f ⟨0, 3, year, frm, 0⟩ l).2.1, 0)
def expAt (f : Fun) (year frm : Int) (l : List Ln) : Fun × List Dl :=
 ((docsPut (chargeG (mkX frm) year (linesE f year frm l).2.1 (linesE f year frm l).1 false).1 ⟨0, 3, year, frm, 0⟩ (linesE f year frm l).2.1).1, (linesE f year frm l).2.1)
def expNew (f : Fun) (year frm : Int) (l r : List Ln) : Fun × Int × Bool × Int :=
 if checkY f year ≠ 0 then (f, 0, false, checkY f year)
 else if preCheck l ≠ 0 then (f, 0, false, preCheck l)
 else if (linesE f year frm l).2.2 ≠ 0 then ((linesE f year frm l).1, 0, false, (linesE f year frm l).2.2)
 else if (chargeG (mkX frm) year (linesE f year frm l).2.1 (linesE f year frm l).1 false).2.2 ≠ 0 then ((chargeG (mkX frm) year (linesE f year frm l).2.1 (linesE f year frm l).1 false).1, 0, false, (chargeG (mkX frm) year (linesE f year frm l).2.1 (linesE f year frm l).1 false).2.2)
 else ((bookF (chargeG (mkX frm) year (linesE f year frm l).2.1 (linesE f year frm l).1 false).1 year frm (linesE f year frm l).2.1 r).1, (bookF (chargeG (mkX frm) year (linesE f year frm l).2.1 (linesE f year frm l).1 false).1 year frm (linesE f year frm l).2.1 r).2.1,
   (chargeG (mkX frm) year (linesE f year frm l).2.1 (linesE f year frm l).1 false).2.1 && ((bookF (chargeG (mkX frm) year (linesE f year frm l).2.1 (linesE f year frm l).1 false).1 year frm (linesE f year frm l).2.1 r).2.2 == 0),
   (bookF (chargeG (mkX frm) year (linesE f year frm l).2.1 (linesE f year frm l).1 false).1 year frm (linesE f year frm l).2.1 r).2.2)
theorem stands_charge {y z i : Int} {T : List Ln} {f : Fun} {c : Chg} (h : Stands y T f) (he : (chargeOf f z i c).2.2 = 0) : Stands y T (chargeOf f z i c).1 :=
 stands_congr h (fun k hk => chargeOf_other he fun m e => by
   obtain ⟨r, rfl⟩ := pre_head hk
   have : (66 : UInt8) = 78 := (List.cons.inj e).1
   exact absurd this (by decide)) (bal_pre y)
theorem stands_chargeG {y z : Int} {T : List Ln} {mk : Dl → Chg} : ∀ {l : List Dl} {f : Fun} {w : Bool}, Stands y T f → (chargeG mk z l f w).2.2 = 0 → Stands y T (chargeG mk z l f w).1
 | [], f, w, h, _ => h
 | x :: r, f, w, h, he => by
   rw [chargeG_cons] at he ⊢
   split
   · rename_i hc; rw [if_pos hc] at he; exact absurd he hc
   · rename_i hc
     rw [if_neg hc] at he
     exact stands_chargeG (stands_charge h (by simpa using hc)) he
theorem stands_docs {y : Int} {T : List Ln} {f : Fun} {d : Dc} {l : List Dl} (h : Stands y T f) : Stands y T (docsPut f d l).1 := by
 unfold docsPut
 split
 · exact h
 · split
   · exact h
   · refine stands_congr h (fun k hk => ?_) (bal_pre y)
     obtain ⟨r, rfl⟩ := pre_head hk
     have ne : ∀ {t : UInt8} {a : List Int}, t ≠ 66 → (66 :: r : List UInt8) ≠ keyOf t a := fun ht e => ht (List.cons.inj e).1.symm
     exact docsF_other f _ d l (ne (by decide)) (fun j => ne (by decide)) (ne (by decide))
theorem obj_bal {y o : Int} {f : Fun} {z a b n : Int} (h : ObjAll y o f) : ObjAll y o (balAdd f (balK z a b) n).1 := by
 unfold balAdd
 split
 · refine obj_congr h fun i => ?_
   show balSet f (balK z a b) _ _ = _
   rw [balSet_app]
   unfold setv
   rw [if_neg (show ¬ keyOf 78 [y, i] = balK z a b from keyOf_tag (by decide))]
 · exact h
theorem obj_post {y o id : Int} {z : Int} : ∀ {A : List Ln} {i : Nat} {f : Fun}, ObjAll y o f → ObjAll y o (postL z id i A f).1
 | [], i, f, h => h
 | x :: r, i, f, h => by
   unfold postL
   have h1 := obj_upd (q := jK id i) (v := some (jV x)) (t := 74) (a := [id, i]) rfl (by decide) h
   have h2 := obj_bal (z := z) (a := x.fund) (b := x.obj) (n := x.amt) h1
   split
   · exact h2
   · exact obj_post h2
theorem obj_entry {y o : Int} {f : Fun} {z kind of : Int} {l all : List Ln} (h : ObjAll y o f) (he : (entryF f z kind of l all).2.2 = 0) : ObjAll y o (entryF f z kind of l all).1 := by
 unfold entryF
 split
 · exact h
 · unfold standF
   have h1 := obj_upd (q := seqKey 1) (v := some (be 8 (readOf f (seqKey 1) + 1))) (t := 83) (a := [1]) rfl (by decide) h
   have h2 := obj_post (z := z) (id := readOf f (seqKey 1) + 1) (A := all) (i := 0) h1
   split
   · exact h
   · split
     · exact h
     · split
       · exact h2
       · exact obj_upd (q := enK _) (t := 69) (a := [_]) rfl (by decide) h2
theorem pre_right {l : List Ln} (h : preCheck l = 0) : l.length ≤ 6 ∧ ∀ x ∈ l, 1 ≤ x.amt ∧ x.amt ≤ 9007199254740992 := by
 unfold preCheck at h
 split at h
 · simp at h
 · rename_i hc
   refine ⟨by omega, fun x hx => ?_⟩
   have hw : wrongL x = false := by
     cases hw : wrongL x with
     | false => rfl
     | true => exact absurd (.inr (.inr (List.any_eq_true.2 ⟨x, hx, hw⟩))) hc
   unfold wrongL rightA at hw
   simp at hw
   omega
theorem exp_stands {f : Fun} {l r T : List Ln} (h : Stands 2020 T f) (hT : EvenT T) (ho : ObjAll 2020 5010 f) (hr : IsFunds (expLines (expAt f 2020 0 l).1 2020 (expAt f 2020 0 l).2) r) (he : (expNew f 2020 0 l r).2.2.2 = 0) :
   ∃ T', Stands 2020 T' (expNew f 2020 0 l r).1 ∧ EvenT T' ∧ ObjAll 2020 5010 (expNew f 2020 0 l r).1 := by
 unfold expAt at hr
 unfold expNew at he ⊢
 by_cases h1 : checkY f 2020 ≠ 0
 · rw [if_pos h1] at he; exact absurd he h1
 · rw [if_neg h1] at he ⊢
   by_cases h2 : preCheck l ≠ 0
   · rw [if_pos h2] at he; exact absurd he h2
   · rw [if_neg h2] at he ⊢
     obtain ⟨hl6, hla⟩ := pre_right (by simpa using h2)
     have hln : linesE f 2020 0 l = (f, l.map fun x => ⟨x.node, x.amt, x.amt, 0⟩, 0) := by unfold linesE; rw [if_pos rfl]
     rw [hln] at he hr ⊢
     simp only at he hr ⊢
     rw [if_neg (by simp)] at he ⊢
     have hD : ∃ D, (l.map fun x => (⟨x.node, x.amt, x.amt, 0⟩ : Dl)) = D := ⟨_, rfl⟩
     obtain ⟨D, hDe⟩ := hD
     have hD6 : D.length ≤ 6 := by rw [← hDe, zJa]; exact hl6
     have hDa : ∀ x ∈ D, 1 ≤ x.orig ∧ x.orig ≤ 9007199254740992 := fun x hx => by
       rw [← hDe] at hx
       obtain ⟨z, hz, rfl⟩ := zTa.1 hx
       exact hla z hz
     rw [hDe] at he hr ⊢
     by_cases h3 : (chargeG (mkX 0) 2020 D f false).2.2 ≠ 0
     · rw [if_pos h3] at he; exact absurd he h3
     · rw [if_neg h3] at he ⊢
       have h30 : (chargeG (mkX 0) 2020 D f false).2.2 = 0 := by simpa using h3
       have s1 := stands_chargeG h h30
       have o1 := obj_chargeG ho h30
       simp only at he ⊢
       generalize (chargeG (mkX 0) 2020 D f false).1 = g at he hr s1 o1 ⊢
       unfold bookF at he ⊢
       have s2 := stands_docs (d := ⟨0, 3, 2020, 0, 0⟩) (l := D) s1
       have o2 := obj_docs (d := ⟨0, 3, 2020, 0, 0⟩) (l := D) o1
       by_cases h4 : (docsPut g ⟨0, 3, 2020, 0, 0⟩ D).2.2 ≠ 0
       · rw [if_pos h4] at he; exact absurd he h4
       · rw [if_neg h4] at he ⊢
         generalize docsPut g ⟨0, 3, 2020, 0, 0⟩ D = q at he hr s2 o2 ⊢
         have hev := exp_even hD6 hDa o2 hr
         by_cases h5 : (entryF q.1 2020 3 q.2.1 (expLines q.1 2020 D) (expLines q.1 2020 D ++ balanceL r)).2.2 ≠ 0
         · rw [if_pos h5] at he; exact absurd he h5
         · rw [if_neg h5] at he ⊢
           have s3 := entry_stands s2 (by simpa using h5)
           refine ⟨_, s3, hT.append hev, ?_⟩
           have := obj_entry o2 (by simpa using h5)
           exact this
end Go.Proofs.Lx
namespace Go.Proofs.Lx
open Go.Vm
attribute [local irreducible] awpArr awpBin awpMake awpAppend awpCvX awpStrOf awpBinX awpSlice awpBS awpStore awpAlloc awpCopy awpIndex awpDraw awpIdxX awpFa awpField awpLookup awpUpdate awpDelete awpClear awpRange awpNext awpEntry awpBuild awpClearS awpIdxL awpTree appB awpIdxO eltA treeA
theorem jK_length (id i : Int) : (jK id i).length = 9 := by simp [jK, keyOf, packs, be_length]
theorem jV_length (x : Ln) : (jV x).length = 24 := by simp [jV, packs, be_length]
theorem right_j (id i : Int) (x : Ln) : rightKV (jK id i) (jV x) = true := by simp [rightKV, jK_length, jV_length]
theorem enK_length (id : Int) : (enK id).length = 5 := by simp [enK, keyOf, packs, be_length]
theorem enV_length (a b c d e : Int) : (enV a b c d e).length = 40 := by simp [enV, packs, be_length]
theorem right_en (id a b c d e : Int) : rightKV (enK id) (enV a b c d e) = true := by simp [rightKV, enK_length, enV_length]
theorem does_recLines : Does Tryz.prog 278 (tabSpec 74 2 3) := by
 refine dA good_nil Tryz.func278 rfl (by decide +kernel) ?_
 rintro args h Q ⟨rfl, hq⟩
 refine ⟨by simp [Tryz.f278], ?_⟩
 simp -dsimp only [Vm.G, zA, zB, zC, zD, zE, zF, q278.1]
 exact hq
theorem does_recEntries : Does Tryz.prog 225 (tabSpec 69 1 5) := by
 refine dA good_nil Tryz.func225 rfl (by decide +kernel) ?_
 rintro args h Q ⟨rfl, hq⟩
 refine ⟨by simp [Tryz.f225], ?_⟩
 simp -dsimp only [Vm.G, zA, zB, zC, zD, zE, zF, q225.1]
 exact hq
def rlnSpec : Vm.Spec := fun args h Q => ∃ (id i : Int) (x : Ln), I64 id ∧ I64 i ∧ x.ok ∧ args = [.v (.int .i64 id), .v (.int .i64 i), lnAv x] ∧ Q (.agg [.sl 1 ((jK id i).map encB), .sl 1 ((jV x).map encB)]) h
theorem does_recLn : Does Tryz.prog 223 rlnSpec := by
 refine dA (good_cons does_recLines (good_cons does_pair good_nil)) Tryz.func223 rfl (by decide +kernel) ?_
 rintro args h Q ⟨id, i, x, hid, hi, ⟨o1, o2, o3, o4⟩, rfl, hq⟩
 refine ⟨by simp [Tryz.f223], ?_⟩
 simp only [lnAv, lnCells]
 simp -dsimp only [Vm.G, zA, zB, zC, zD, zE, zF, q223.1]
 refine draw_cont [5] (.take 1 (.take 2 (.take 3 (.take 4 (.take 5 (.take 6 (.take 7 (.take 8 (.alt 0 (.alt 9 (.alt 10 (.alt 11 (.done) .stop) .stop) .stop) (.alt 9 (.alt 0 (.alt 10 (.alt 11 (.done) .stop) .stop) .stop) (.stop))))))))))) (fun s h2 => h2 = h ∧ s 6 = .box [.sl 1 ((jK id i).map encB), .sl 1 ((jV x).map encB)]) (by kernel_rfl) (by kernel_rfl) (by kernel_rfl) (by decide) ?_ ?_
 · have hm : ∀ m ∈ [id, i, x.fund, x.obj, x.amt], I64 m := fun m hm => by
     simp only [zOa, zYa, or_false] at hm
     rcases hm with rfl | rfl | rfl | rfl | rfl <;> assumption
   have e1 : keyOf 74 (([id, i, x.fund, x.obj, x.amt] : List Int).take 2) = jK id i := rfl
   have e2 : packOf (([id, i, x.fund, x.obj, x.amt] : List Int).drop 2) = jV x := rfl
   repeat' first
     | with_reducible exact True.intro
     | simp -dsimp only [Vm.G, zA, zB, zC, zD, zE, zF, q223.1, e1, e2]
     | refine call_one (S := tabSpec 74 2 3) rfl _ GaL.rfl ⟨rfl, ?_⟩
     | refine call_one (S := pairSpec) rfl _ GaL.rfl ⟨74, 2, 3, [id, i, x.fund, x.obj, x.amt], by simp, by simp, hm, rfl, ?_⟩
     | refine bs_intro zr3 (by decide) (by decide) rfl rfl (by simp [solid, AV.cells]) ?_
     | refine tree_alt ?_ ?_
     | repeat' first | rfl | exact True.intro | refine And.intro ?_ ?_
 · rintro s h2 ⟨rfl, e6⟩
   simp -dsimp only [Vm.G, zA, zB, zC, zD, zE, zF, q223.1, e6]
   exact hq
structure En where
 id : Int
 year : Int
 kind : Int
 lines : Int
 of' : Int
 by' : Int
def enCells (e : En) : List AV := [.v (.int .i64 e.id), .v (.int .i64 e.year), .v (.int .i64 e.kind), .v (.int .i64 e.lines), .v (.int .i64 e.of'), .v (.int .i64 e.by')]
def En.ok (e : En) : Prop := I64 e.id ∧ I64 e.year ∧ I64 e.kind ∧ I64 e.lines ∧ I64 e.of' ∧ I64 e.by'
def renSpec : Vm.Spec := fun args h Q => ∃ e : En, e.ok ∧ args = [.agg (enCells e)] ∧ Q (.agg [.sl 1 ((enK e.id).map encB), .sl 1 ((enV e.year e.kind e.lines e.of' e.by').map encB)]) h
theorem does_recEn : Does Tryz.prog 183 renSpec := by
 refine dA (good_cons does_recEntries (good_cons does_pair good_nil)) Tryz.func183 rfl (by decide +kernel) ?_
 rintro args h Q ⟨d, ⟨o1, o2, o3, o4, o5, o6⟩, rfl, hq⟩
 refine ⟨by simp [Tryz.f183], ?_⟩
 simp only [enCells]
 simp -dsimp only [Vm.G, zA, zB, zC, zD, zE, zF, q183.1]
 refine draw_cont [1] (.take 1 (.take 2 (.take 3 (.take 4 (.take 5 (.take 6 (.take 7 (.take 8 (.take 9 (.take 10 (.take 11 (.take 12 (.alt 0 (.alt 13 (.alt 14 (.alt 15 (.done) .stop) .stop) .stop) (.alt 13 (.alt 0 (.alt 14 (.alt 15 (.done) .stop) .stop) .stop) (.stop))))))))))))))) (fun s h2 => h2 = h ∧ s 2 = .box [.sl 1 ((enK d.id).map encB), .sl 1 ((enV d.year d.kind d.lines d.of' d.by').map encB)]) (by kernel_rfl) (by kernel_rfl) (by kernel_rfl) (by decide) ?_ ?_
 · have hm : ∀ m ∈ [d.id, d.year, d.kind, d.lines, d.of', d.by'], I64 m := fun m hm => by
     simp only [zOa, zYa, or_false] at hm
     rcases hm with rfl | rfl | rfl | rfl | rfl | rfl <;> assumption
   have e1 : keyOf 69 (([d.id, d.year, d.kind, d.lines, d.of', d.by'] : List Int).take 1) = enK d.id := rfl
   have e2 : packOf (([d.id, d.year, d.kind, d.lines, d.of', d.by'] : List Int).drop 1) = enV d.year d.kind d.lines d.of' d.by' := rfl
   repeat' first
     | with_reducible exact True.intro
     | simp -dsimp only [Vm.G, zA, zB, zC, zD, zE, zF, q183.1, e1, e2]
     | refine call_one (S := tabSpec 69 1 5) rfl _ GaL.rfl ⟨rfl, ?_⟩
     | refine call_one (S := pairSpec) rfl _ GaL.rfl ⟨69, 1, 5, [d.id, d.year, d.kind, d.lines, d.of', d.by'], by simp, by simp, hm, rfl, ?_⟩
     | refine bs_intro zr3 (by decide) (by decide) rfl rfl (by simp [solid, AV.cells]) ?_
     | refine tree_alt ?_ ?_
     | repeat' first | rfl | exact True.intro | refine And.intro ?_ ?_
 · rintro s h2 ⟨rfl, e2⟩
   simp -dsimp only [Vm.G, zA, zB, zC, zD, zE, zF, q183.1, e2]
   exact hq
theorem does_jset : Does Tryz.prog 182 dsetSpec := by
 refine dA (good_cons does_vput good_nil) Tryz.func182 rfl (by decide +kernel) ?_
 rintro args h Q ⟨V, f, k, v, rfl, hr, hV, hq⟩
 refine ⟨by simp [Tryz.f182], ?_⟩
 simp -dsimp only [Vm.G, zA, zB, zC, zD, zE, zF, q182.1]
 refine call_one (S := vputSpec) rfl _ GaL.rfl ⟨V, f, k, v, rfl, hV, fun _ h' g1 g2 => ?_, fun hc => by rw [hr] at hc; cases hc⟩
 simp -dsimp only [Vm.G, zA, zB, zC, zD, zE, zF, q182.1]
 exact hq h' g1 g2
def postSpec : Vm.Spec := fun args h Q => ∃ (V : VId) (f : Fun) (year id i : Int) (x : Ln), I64 id ∧ I64 i ∧ x.ok ∧ args = [.agg [.ptr V.iv 0], .v (.int .i64 year), .v (.int .i64 id), .v (.int .i64 i), lnAv x] ∧ isView h V f ∧
 ∀ h', isView h' V (balAdd (upd f (jK id i) (some (jV x))) (balK year x.fund x.obj) x.amt).1 → Same h h' [V.ic] → Q (.v (.int .i64 (balAdd (upd f (jK id i) (some (jV x))) (balK year x.fund x.obj) x.amt).2)) h'
theorem does_post : Does Tryz.prog 181 postSpec := by
 refine dA (good_cons does_recLn (good_cons does_jset (good_cons does_balAdd good_nil))) Tryz.func181 rfl (by decide +kernel) ?_
 rintro args h Q ⟨V, f, year, id, i, x, hid, hi, hx, rfl, hV, hq⟩
 refine ⟨by simp [Tryz.f181], ?_⟩
 simp only [lnAv, lnCells]
 simp -dsimp only [Vm.G, zA, zB, zC, zD, zE, zF, q181.1]
 refine draw_cont [5, 9] (.take 0 (.take 1 (.take 2 (.take 3 (.alt 4 (.alt 5 (.alt 6 (.done) .stop) .stop) .stop))))) (fun s h' => isView h' V (upd f (jK id i) (some (jV x))) ∧ Same h h' [V.ic] ∧ s 11 = .v (.int .i64 0) ∧ s 1 = .v (.int .i64 year) ∧ s 5 = .eptr [.ptr V.iv 0] ∧ s 9 = .eptr [.v (.int .i64 x.fund), .v (.int .i64 x.obj), .v (.int .i64 x.node), .v (.int .i64 x.amt)]) (by kernel_rfl) (by kernel_rfl) (by kernel_rfl) (by decide) ?_ ?_
 · simp -dsimp only [Vm.G, zA, zB, zC, zD, zE, zF, q181.1, AV.cells]
   refine call_one (S := rlnSpec) rfl _ GaL.rfl ⟨id, i, x, hid, hi, hx, rfl, ?_⟩
   simp -dsimp only [Vm.G, zA, zB, zC, zD, zE, zF, q181.1]
   refine call_one (S := dsetSpec) rfl _ GaL.rfl ⟨V, f, jK id i, jV x, rfl, right_j id i x, hV, fun h2 g1 g2 => ?_⟩
   simp -dsimp only [Vm.G, zA, zB, zC, zD, zE, zF, q181.1]
   refine ⟨g1, g2, ?_⟩
   repeat' first | rfl | exact True.intro | refine And.intro ?_ ?_
 · rintro s h2 ⟨g1, g2, e11, e1, e5, e9⟩
   simp -dsimp only [Vm.G, zA, zB, zC, zD, zE, zF, q181.1, e11, e1, e5, e9, bne_self_eq_false]
   refine call_one (S := balAddSpec) rfl _ GaL.rfl ⟨V, upd f (jK id i) (some (jV x)), year, x, rfl, g1, fun h3 g3 g4 => ?_⟩
   simp -dsimp only [Vm.G, zA, zB, zC, zD, zE, zF, q181.1]
   exact hq h3 g3 (g2.trans g4)
end Go.Proofs.Lx
namespace Go.Proofs.Lx
open Go.Vm
def tF0 : Fun := (openOf noF 2020).1
theorem open_none {q : List UInt8} (h : (keyOf 66 [2020]).isPrefixOf q = true) : tF0 q = none := by
 obtain ⟨r, rfl⟩ := pre_head h
 rfl
theorem t_stands0 : Stands 2020 [] tF0 := stands_new fun q h => open_none h
end Go.Proofs.Lx
namespace Go.Proofs.Lx
open Go.Vm Go.RowKit
attribute [local irreducible] awpArr awpBin awpMake awpAppend awpCvX awpStrOf awpBinX awpSlice awpBS awpStore awpAlloc awpCopy awpIndex awpDraw awpIdxX awpFa awpField awpLookup awpUpdate awpDelete awpClear awpRange awpNext awpEntry awpBuild awpClearS awpIdxL awpTree appB awpIdxO eltA treeA
def growSpec : Vm.Spec := fun args h Q => ∃ n : Nat, args = [.v (.slice none 0 0), .v (.int .i64 n)] ∧ 1 ≤ n ∧ n ≤ 1048576 ∧ Q (.own true 45 4 []) h
theorem elemIn_inv {P : Program} {t e e' : TypeId} {sz bs : Nat} (hu : P.underlying t = some (.slice e)) (he : elemIn P t = some (e', sz, bs)) : ∃ i0 z, P.info? e = some i0 ∧ i0.zero = some z ∧ i0.size = sz ∧ i0.bytes = bs ∧ z.cells.size = sz := by
 unfold elemIn at he
 rw [hu] at he
 simp only at he
 cases hi : P.info? e with
 | none => rw [hi] at he; cases he
 | some i0 =>
   rw [hi] at he
   simp only at he
   cases hz : i0.zero with
   | none => rw [hz] at he; cases he
   | some z =>
     rw [hz] at he
     simp only at he
     split at he
     · rename_i hc
       injection he with he
       injection he with _ he
       injection he with e1 e2
       exact ⟨i0, z, rfl, hz, e1, e2, hc.1.trans e1⟩
     · cases he
theorem does_growLn : Does Tryz.prog 226 growSpec := by
 refine ⟨⟨Tryz.f226, Tryz.func226, by kernel_rfl, by decide +kernel⟩, ?_⟩
 rintro args h Q ⟨n, rfl, hn1, hn2, hq⟩ w g vs hvs hrep hh hfr hlaid
 have hv0 : vs.getD 0 undef = .slice none 0 0 := (rep_v (hrep 0 _ rfl)).1
 have hv1 : vs.getD 1 undef = .int .i64 n := (rep_v (hrep 1 _ rfl)).1
 have hvs2 : vs = #[.slice none 0 0, .int .i64 n] := by
   have h2 : vs.size = 2 := hvs
   apply Array.ext
   · simpa using h2
   · intro i hi1 hi2
     have : i = 0 ∨ i = 1 := by omega
     rcases this with rfl | rfl
     · simpa [Array.getD, h2] using hv0
     · simpa [Array.getD, h2] using hv1
 subst hvs2
 have hi : ∃ i0 z, Tryz.prog.info? 45 = some i0 ∧ i0.zero = some z ∧ i0.size = 4 ∧ i0.bytes = 32 ∧ z.cells.size = 4 :=
   elemIn_inv Tryz.underlying33 ei33
 obtain ⟨i0, z, hi0, hz0, hs0, hb0, hzs⟩ := hi
 have key : Calls Tryz.prog 226 #[.slice none 0 0, .int .i64 n] w fun e w' => e = .returned (.slice (some ⟨w.heap.size, 0, none⟩) 0 (grownCap w (0 + n) 0 45)) ∧
     w' = w.drew.alloc (.cells (([] : List Value).toArray ++ Builtin.zeroCells z.cells (0 + n - 0) ++ Builtin.zeroCells z.cells (grownCap w (0 + n) 0 45 - (0 + n))) 45) :=
   Any8.slices_Grow_grow Tryz.growLine i0 z hi0 hz0 (by omega) none 0 0 n [] w (zLa _) (by omega) (by rw [hb0]; omega) (by omega) (by simp) (fun _ => rfl) (fun a ha => by cases ha)
 have hGn := grownCap_ge w (0 + n) 0 45
 have hGm := grownCap_le_maxLen w (0 + n) 0 45 (by unfold maxLen; omega)
 generalize grownCap w (0 + n) 0 45 = G at key hGn hGm
 have hcz : ∀ m, (Builtin.zeroCells z.cells m).size = m * 4 := fun m => by rw [← hzs]; exact size_zeroCells _ _
 obtain ⟨cur, hcur⟩ : ∃ cur, cur = ([] : List Value).toArray ++ Builtin.zeroCells z.cells (0 + n - 0) ++ Builtin.zeroCells z.cells (G - (0 + n)) := ⟨_, rfl⟩
 have hcs : cur.size = G * 4 := by rw [hcur, Array.size_append, Array.size_append, hcz, hcz]; simp; omega
 rw [← hcur] at key
 refine key.mono ?_
 rintro e w' ⟨rfl, rfl⟩
 have hget : ∀ k, k < w.heap.size → (w.drew.alloc (.cells cur 45)).heap[k]? = w.heap[k]? := fun k hk => by
   show (w.heap.push _)[k]? = _
   rw [Array.getElem?_push, if_neg (by omega)]
 have hlast : (w.drew.alloc (.cells cur 45)).heap[w.heap.size]? = some (.cells cur 45 (0, 0)) := by
   show (w.heap.push _)[w.heap.size]? = _
   rw [Array.getElem?_push, if_pos rfl]
 have hsize : (w.drew.alloc (.cells cur 45)).heap.size = w.heap.size + 1 := by
   show (w.heap.push _).size = _
   rw [Array.size_push]
 have hos : (w.drew.alloc (.cells cur 45)).os = w.os ∧ (w.drew.alloc (.cells cur 45)).tape = w.tape ∧ (w.drew.alloc (.cells cur 45)).output = w.output := ⟨rfl, rfl, rfl⟩
 generalize w.drew.alloc (.cells cur 45) = w' at hget hlast hsize hos ⊢
 have hk : Keeps w g w' g := ⟨fun _ => zLa _, fun k j v hj hv => by
   have hkl : k < w.heap.size := by
     rcases zQb k w.heap.size with h | h
     · exact h
     · rw [hfr k h] at hj; omega
   rw [World.cell?_of_block (a := ⟨k, j, none⟩) (hget k hkl)]; exact hv, zLa _, fun _ _ => rfl⟩
 refine ⟨.own true 45 4 [], h, g, _, hq, rfl, ⟨⟨by decide, by simp, [], ⟨by simp, .inr ⟨w.heap.size, G, cur, rfl, zLa _, hlast, Nat.zero_le _, hGm, hcs, by simp⟩⟩, by simp, fun j u hu => by simp [flat] at hu, fun b hb => ?_⟩, fun b hb k hk2 => ?_⟩, ?_, ?_, zLa _, fun _ _ => rfl, fun _ _ => rfl, fun i hi1 hi2 => by omega, fun b hb => hfr b (by omega)⟩
 · simp only [Value.ownBlock, Option.some.injEq] at hb
   subst hb
   rw [hfr _ (zLa _)]
   exact Nat.zero_le _
 · simp only [Value.ownBlock, Option.some.injEq] at hb
   subst hb
   have := hh.lt k hk2
   omega
 · exact ⟨hh.n, fun i hi => by have := hh.lt i hi; omega, hh.inj, fun i o ho => (hh.obj i o ho).keepAt hk ⟨hget _ (hh.lt i (by rw [← hh.n]; exact get_lt ho)), rfl⟩⟩
 · exact ⟨hos.1, hos.2.1, hos.2.2, by omega, fun k hk2 _ => hget k hk2⟩
end Go.Proofs.Lx
