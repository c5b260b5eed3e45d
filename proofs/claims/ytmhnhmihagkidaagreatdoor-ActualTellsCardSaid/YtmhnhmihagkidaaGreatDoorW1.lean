/- What the functions of the program do: their contracts. -/
import Derived.Test.YtmhnhmihagkidaaGreatDoorV2
import Derived.Test.YtmhnhmihagkidaaGreatDoorTFs
import Derived.Test.YtmhnhmihagkidaaGreatDoorW0
/- The reference's tables, walked. -/
set_option linter.unusedSimpArgs false
set_option linter.unusedVariables false
namespace Go.Proofs.Lx
open Go.Vm
attribute [local irreducible] awpArr awpBin awpMake awpAppend awpCvX awpStrOf awpBinX awpSlice awpBS awpStore awpAlloc awpCopy awpIndex awpDraw awpIdxX awpFa awpField awpLookup awpUpdate awpDelete awpClear awpRange awpNext awpEntry awpBuild awpClearS awpIdxL awpTree appB
def rRightSpec : Vm.Spec := fun args h Q => ∃ k v : List UInt8, args = [.sl 1 (k.map encB), .sl 1 (v.map encB)] ∧ Q (.v (.bool (rightKV k v))) h
theorem does_rRight : Does Tryz.prog 137 rRightSpec := by
  refine does_of_awp good_nil Tryz.func137 rfl (by decide +kernel) (by decide +kernel) ?_
  rintro args h Q ⟨k, v, rfl, hq⟩
  refine ⟨by simp [Tryz.f137], ?_⟩
  rw [awpFunc_some (by rfl)]
  simp -dsimp only [Vm.E, List.lookup, Nat.reduceAdd, Nat.reduceBEq, Int.reduceBNe, Int.reduceBEq, Bool.true_beq, Bool.false_beq, Tryz.underlying124]
  by_cases d1 : 1 ≤ k.length
  · have c1 : decide ((k.length : Int) ≥ 1) = true := decide_eq_true (by omega)
    simp -dsimp only [Vm.E, List.lookup, Nat.reduceAdd, Nat.reduceBEq, Int.reduceBNe, Int.reduceBEq, Bool.true_beq, Bool.false_beq, c1, Tryz.underlying124]
    by_cases d2 : k.length ≤ 32
    · have c2 : decide ((k.length : Int) ≤ 32) = true := decide_eq_true (by omega)
      simp -dsimp only [Vm.E, List.lookup, Nat.reduceAdd, Nat.reduceBEq, Int.reduceBNe, Int.reduceBEq, Bool.true_beq, Bool.false_beq, c2, Tryz.underlying124, Tryz.results137]
      have : rightKV k v = decide ((v.length : Int) ≤ 120) := by
        unfold rightKV
        have e1 : ¬ k.length < 1 := by omega
        have e2 : ¬ 32 < k.length := by omega
        by_cases e : v.length ≤ 120
        · have : ¬ 120 < v.length := by omega
          have e3 : ((v.length : Int) ≤ 120) := by omega
          have e4 : ¬ ((120 : Int) < v.length) := by omega
          have e5 : ¬ ((32 : Int) < k.length) := by omega
          have e6 : ¬ ((k.length : Int) < 1) := by omega
          simp [e3, e4, e5, e6]
        · have e3 : ¬ ((v.length : Int) ≤ 120) := by omega
          have e4 : ((120 : Int) < v.length) := by omega
          simp [e3, e4]
      rw [← this]; exact hq
    · have c2 : decide ((k.length : Int) ≤ 32) = false := decide_eq_false (by omega)
      simp -dsimp only [Vm.E, List.lookup, Nat.reduceAdd, Nat.reduceBEq, Int.reduceBNe, Int.reduceBEq, Bool.true_beq, Bool.false_beq, c2, Tryz.underlying124, Tryz.results137]
      have : rightKV k v = false := by unfold rightKV; simp; omega
      rw [this] at hq; exact hq
  · have c1 : decide ((k.length : Int) ≥ 1) = false := decide_eq_false (by omega)
    simp -dsimp only [Vm.E, List.lookup, Nat.reduceAdd, Nat.reduceBEq, Int.reduceBNe, Int.reduceBEq, Bool.true_beq, Bool.false_beq, c1, Tryz.underlying124, Tryz.results137]
    have : rightKV k v = false := by unfold rightKV; simp; omega
    rw [this] at hq; exact hq
def tabObj (l : List KV) : AObj := .cells [.sl 2 (l.map kvAv)]
def tGetSpec : Vm.Spec := fun args h Q => ∃ (i : Nat) (l : List KV) (k : List UInt8), args = [.ptr i 0, .sl 1 (k.map encB)] ∧ h[i]? = some (tabObj l) ∧ l.length ≤ 1073741824 ∧ (∀ p ∈ l, p.2.length ≤ 1073741824) ∧
  (∀ v, tfind k l = some v → Q (.tup [.sl 1 (v.map encB), .v (.bool true)]) h) ∧ (tfind k l = none → Q (.tup [.v (.slice none 0 0), .v (.bool false)]) h)
theorem tfind_at {k : List UInt8} {l : List KV} {i : Nat} (hi : i < l.length) (hb : ∀ j (hj : j < i), (l[j]'(by omega)).1 ≠ k) (he : l[i].1 = k) : tfind k l = some l[i].2 := by
  unfold tfind
  have : l.find? (fun p => p.1 == k) = some l[i] := by
    rw [List.find?_eq_some_iff_getElem]
    exact ⟨by simpa using he, i, hi, rfl, fun j hj => by simpa using hb j hj⟩
  rw [this]; rfl
theorem tfind_no {k : List UInt8} {l : List KV} (hb : ∀ j (hj : j < l.length), l[j].1 ≠ k) : tfind k l = none := by
  unfold tfind
  rw [List.find?_eq_none.2 fun p hp => ?_]; rfl
  obtain ⟨j, hj, rfl⟩ := List.getElem_of_mem hp
  simpa using hb j hj
set_option maxRecDepth 20000 in
theorem does_tGet : Does Tryz.prog 163 tGetSpec := by
  refine does_of_awp good_nil Tryz.func163 rfl (by decide +kernel) (by decide +kernel) ?_
  rintro args h Q ⟨id, l, k, rfl, hh, hl, hvl, hq1, hq2⟩
  unfold tabObj at hh
  refine ⟨by simp [Tryz.f163], ?_⟩
  rw [awpFunc_some (by rfl)]
  simp -dsimp only [Vm.E, List.lookup, Nat.reduceAdd, Nat.reduceBEq, Int.reduceBNe, Int.reduceBEq, Bool.true_beq, Bool.false_beq]
  refine awp_loop (fun m s h' => ∃ i : Nat, i + m = l.length ∧ h' = h ∧ (∀ j (hj : j < l.length), j < i → l[j].1 ≠ k) ∧ s = mk [(0, .ptr id 0), (1, .sl 1 (k.map encB)), (6, .v (.int .i64 i))])
    l.length _ (le_mk _ ?_) ⟨0, by omega, rfl, fun j _ hj => by omega, rfl⟩ ?_
  · simp only [List.forall_mem_cons, List.not_mem_nil, false_imp_iff, implies_true, and_true]
    simp -dsimp only [Vm.E, List.lookup, Nat.reduceAdd, Nat.reduceBEq, Int.reduceBNe, Int.reduceBEq, Bool.true_beq, Bool.false_beq]
    exact ⟨.refl _, .refl _, .refl _⟩
  · rintro m s h' ⟨i, hi, rfl, hb, rfl⟩
    simp -dsimp only [Vm.E, List.lookup, Nat.reduceAdd, Nat.reduceBEq, Int.reduceBNe, Int.reduceBEq, Bool.true_beq, Bool.false_beq, fo135_0, hh, of64, Tryz.underlying64]
    refine cond_intro (fun hcc => ?_) (fun hcc => ?_)
    · have hlt : i < l.length := by have := of_decide_eq_true hcc; omega
      have hw : IntKind.i64.wrap ((i : Int) + 1) = ((i + 1 : Nat) : Int) := by rw [wrap_i64 (by omega) (by omega)]; simp
      obtain ⟨p, hp⟩ : ∃ p, l[i] = p := ⟨_, rfl⟩
      have hvp : p.2.length ≤ 1073741824 := hvl p (hp ▸ List.getElem_mem hlt)
      have hf1 : p.1 = k → tfind k l = some p.2 := fun e => by rw [← hp]; exact tfind_at hlt (fun j hj => hb j _ hj) (by rw [hp]; exact e)
      simp -dsimp only [Vm.E, List.lookup, Nat.reduceAdd, Nat.reduceBEq, Int.reduceBNe, Int.reduceBEq, Bool.true_beq, Bool.false_beq]
      refine draw_cont [] (.take 0 (.take 1 (.take 2 (.take 4 (.take 9 (.take 10 (.alt 3 (.take 5 (.take 6 (.take 7 (.take 8 (.take 11 (.done)))))) .stop))))))) (fun s h2 => h2 = h' ∧ s 27 = .v (.bool (p.1 == k)) ∧ s 0 = .ptr id 0 ∧ s 1 = .sl 1 (k.map encB) ∧ s 6 = .v (.int .i64 i)) (by kernel_rfl) (by kernel_rfl) (by kernel_rfl) (by decide) ?_ ?_
      · simp -dsimp only [Vm.E, List.lookup, Nat.reduceAdd, Nat.reduceBEq, Int.reduceBNe, Int.reduceBEq, Bool.true_beq, Bool.false_beq, Vm.S, Nat.reduceLeDiff, fo135_0, hh, of64, es64, as64, Tryz.underlying124, cs124]
        refine strOf_sl bt124 k rfl ?_
        simp -dsimp only [Vm.E, List.lookup, Nat.reduceAdd, Nat.reduceBEq, Int.reduceBNe, Int.reduceBEq, Bool.true_beq, Bool.false_beq, Vm.S, Nat.reduceLeDiff, fo135_0, hh, of64, es64, as64, Tryz.underlying124, cs124, fo126_0, fo126_1, of124, AV.cells, Tryz.underlying64]
        refine idx_map kvAv l i hlt ?_
        simp only [hp, kvAv]
        simp -dsimp only [Vm.E, List.lookup, Nat.reduceAdd, Nat.reduceBEq, Int.reduceBNe, Int.reduceBEq, Bool.true_beq, Bool.false_beq, Vm.S, Nat.reduceLeDiff, fo135_0, hh, of64, es64, as64, Tryz.underlying124, cs124, fo126_0, fo126_1, of124, AV.cells, Tryz.underlying64]
        refine strOf_sl bt124 p.1 rfl ?_
        simp -dsimp only [Vm.E, List.lookup, Nat.reduceAdd, Nat.reduceBEq, Int.reduceBNe, Int.reduceBEq, Bool.true_beq, Bool.false_beq, Vm.S, Nat.reduceLeDiff, fo135_0, hh, of64, es64, as64, Tryz.underlying124, cs124, fo126_0, fo126_1, of124, AV.cells, Tryz.underlying64]
        simp -dsimp only [Vm.E, List.lookup, Nat.reduceAdd, Nat.reduceBEq, Int.reduceBNe, Int.reduceBEq, Bool.true_beq, Bool.false_beq, str_eql, toList_mk]
      · rintro s h2 ⟨rfl, e27, e0, e1, e6⟩
        cases c1 : (p.1 == k)
        · rw [c1] at e27
          simp -dsimp only [Vm.E, List.lookup, Nat.reduceAdd, Nat.reduceBEq, Int.reduceBNe, Int.reduceBEq, Bool.true_beq, Bool.false_beq, e27, e6, hw]
          refine kept_intro ⟨l.length - (i + 1), by omega, _, le_mk [(0, .ptr id 0), (1, .sl 1 (k.map encB)), (6, .v (.int .i64 (i + 1 : Nat)))] ?_, i + 1, by omega, rfl, fun j hj hj2 => ?_, rfl⟩
          · simp only [List.forall_mem_cons, List.not_mem_nil, false_imp_iff, implies_true, and_true]
            simp -dsimp only [Vm.E, List.lookup, Nat.reduceAdd, Nat.reduceBEq, Int.reduceBNe, Int.reduceBEq, Bool.true_beq, Bool.false_beq, e0, e1]
            exact ⟨.refl _, .refl _, .refl _⟩
          · by_cases hji : j = i
            · subst hji; rw [hp]; simpa using c1
            · exact hb j hj (by omega)
        · rw [c1] at e27
          have hf := hq1 _ (hf1 (by simpa using c1))
          simp -dsimp only [Vm.E, List.lookup, Nat.reduceAdd, Nat.reduceBEq, Int.reduceBNe, Int.reduceBEq, Bool.true_beq, Bool.false_beq, e27, e6, e0, e1, Vm.S, Nat.reduceLeDiff, fo135_0, hh, of64, es64, as64, Tryz.underlying124, cs124, fo126_0, fo126_1, of124, AV.cells, Tryz.underlying64]
          refine idx_map kvAv l i hlt ?_
          simp only [hp, kvAv]
          simp -dsimp only [Vm.E, List.lookup, Nat.reduceAdd, Nat.reduceBEq, Int.reduceBNe, Int.reduceBEq, Bool.true_beq, Bool.false_beq, e27, e6, e0, e1, Vm.S, Nat.reduceLeDiff, fo135_0, hh, of64, es64, as64, Tryz.underlying124, cs124, fo126_0, fo126_1, of124, AV.cells, Tryz.underlying64]
          simp -dsimp only [Vm.E, List.lookup, Nat.reduceAdd, Nat.reduceBEq, Int.reduceBNe, Int.reduceBEq, Bool.true_beq, Bool.false_beq, e27, e6, e0, e1, append_nil ei124]
          refine app_sl Tryz.underlying124 (fun c hc => by obtain ⟨y, -, rfl⟩ := List.mem_map.1 hc; rfl) (by simp only [List.length_map, List.length_nil]; omega) ?_
          simp -dsimp only [Vm.E, List.lookup, Nat.reduceAdd, Nat.reduceBEq, Int.reduceBNe, Int.reduceBEq, Bool.true_beq, Bool.false_beq, e27, e6, e0, e1, Tryz.results163]
          exact hf
    · have hge : ¬ i < l.length := by have := of_decide_eq_false hcc; omega
      simp -dsimp only [Vm.E, List.lookup, Nat.reduceAdd, Nat.reduceBEq, Int.reduceBNe, Int.reduceBEq, Bool.true_beq, Bool.false_beq, Tryz.results163]
      exact hq2 (tfind_no fun j hj => hb j hj (by omega))
theorem str_lss {t : TypeId} {a b : ByteArray} {KV : Value → Prop} : awpBin Tryz.prog .lss t (.v (.string a)) (.v (.string b)) KV = KV (.bool (Op.bytesLess a.toList b.toList)) := by simp [awpBin]
def lessAt (l : List KV) (i : Nat) (k : List UInt8) : Bool := (l[i]?.map fun p => decide (kLt p.1 k)).getD false
def sameAt (l : List KV) (i : Nat) (k : List UInt8) : Bool := (l[i]?.map fun p => p.1 == k).getD false
theorem lessAt_true {l : List KV} {i : Nat} {k : List UInt8} (h : lessAt l i k = true) : ∃ hi : i < l.length, kLt l[i].1 k := by
  unfold lessAt at h
  by_cases hi : i < l.length
  · rw [List.getElem?_eq_getElem hi] at h; exact ⟨hi, by simpa using h⟩
  · rw [List.getElem?_eq_none (by omega)] at h; cases h
theorem sameAt_true {l : List KV} {i : Nat} {k : List UInt8} (h : sameAt l i k = true) : ∃ hi : i < l.length, l[i].1 = k := by
  unfold sameAt at h
  by_cases hi : i < l.length
  · rw [List.getElem?_eq_getElem hi] at h; exact ⟨hi, by simpa using h⟩
  · rw [List.getElem?_eq_none (by omega)] at h; cases h
theorem tput_at {k v : List UInt8} {l : List KV} {i : Nat} (hi : i ≤ l.length) (hb : ∀ j (hj : j < l.length), j < i → kLt l[j].1 k) (h1 : lessAt l i k = false) (h2 : sameAt l i k = false) : tput k v l = l.take i ++ (k, v) :: l.drop i := by
  refine tput_ins k v l i hi (fun j hj => hb j _ hj) fun h => ?_
  unfold lessAt at h1; unfold sameAt at h2
  rw [List.getElem?_eq_getElem h] at h1 h2
  exact ⟨by simpa using h1, by simpa using h2⟩
def tPutSpec : Vm.Spec := fun args h Q => ∃ (i : Nat) (l : List KV) (k v : List UInt8), args = [.ptr i 0, .sl 1 (k.map encB), .sl 1 (v.map encB)] ∧ h[i]? = some (tabObj l) ∧ l.length ≤ 1073741824 ∧ k.length ≤ 1073741824 ∧ v.length ≤ 1073741824 ∧
  Q (.tup []) (h.set i (tabObj (tput k v l)))
set_option maxRecDepth 20000 in
set_option maxHeartbeats 16000000 in
theorem does_tPut : Does Tryz.prog 138 tPutSpec := by
  refine does_of_awp good_nil Tryz.func138 rfl (by decide +kernel) (by decide +kernel) ?_
  rintro args h Q ⟨id, l, k, v, rfl, hh, hl, hkl, hvl, hq⟩
  unfold tabObj at hh hq
  refine ⟨by simp [Tryz.f138], ?_⟩
  rw [awpFunc_some (by rfl)]
  simp -dsimp only [Vm.E, List.lookup, Nat.reduceAdd, Nat.reduceBEq, Int.reduceBNe, Int.reduceBEq, Bool.true_beq, Bool.false_beq, append_nil ei124]
  refine app_sl Tryz.underlying124 (fun c hc => by obtain ⟨y, -, rfl⟩ := List.mem_map.1 hc; rfl) (by simp only [List.length_map, List.length_nil]; omega) ?_
  simp -dsimp only [Vm.E, List.lookup, Nat.reduceAdd, Nat.reduceBEq, Int.reduceBNe, Int.reduceBEq, Bool.true_beq, Bool.false_beq, append_nil ei124]
  refine app_sl Tryz.underlying124 (fun c hc => by obtain ⟨y, -, rfl⟩ := List.mem_map.1 hc; rfl) (by simp only [List.length_map, List.length_nil]; omega) ?_
  simp -dsimp only [Vm.E, List.lookup, Nat.reduceAdd, Nat.reduceBEq, Int.reduceBNe, Int.reduceBEq, Bool.true_beq, Bool.false_beq, Vm.S, Nat.reduceLeDiff, List.nil_append, bd126, al126, sz126]
  refine awp_loop (fun m s h' => ∃ i : Nat, i + m = l.length ∧ h' = h ∧ (∀ j (hj : j < l.length), j < i → kLt l[j].1 k) ∧ s = mk [(0, .ptr id 0), (1, .sl 1 (k.map encB)), (6, .box [.sl 1 (k.map encB), .sl 1 (v.map encB)]), (7, .v (.int .i64 i))])
    l.length _ (le_mk _ ?_) ⟨0, by omega, rfl, fun j _ hj => by omega, rfl⟩ ?_
  · simp only [List.forall_mem_cons, List.not_mem_nil, false_imp_iff, implies_true, and_true]
    simp -dsimp only [Vm.E, List.lookup, Nat.reduceAdd, Nat.reduceBEq, Int.reduceBNe, Int.reduceBEq, Bool.true_beq, Bool.false_beq]
    exact ⟨.refl _, .refl _, .refl _, .refl _⟩
  · rintro m s h' ⟨i, hi, rfl, hb, rfl⟩
    simp -dsimp only [Vm.E, List.lookup, Nat.reduceAdd, Nat.reduceBEq, Int.reduceBNe, Int.reduceBEq, Bool.true_beq, Bool.false_beq]
    have hw : i < l.length → IntKind.i64.wrap ((i : Int) + 1) = ((i + 1 : Nat) : Int) := fun hlt => by rw [wrap_i64 (by omega) (by omega)]; simp
    refine draw_cont [] (.take 0 (.take 1 (.take 2 (.take 3 (.alt 4 (.take 5 (.take 6 (.take 7 (.take 8 (.take 9 (.take 10 (.take 12 (.take 17 (.alt 11 (.take 13 (.take 14 (.alt 15 (.alt 16 (.alt 18 (.take 19 (.take 20 (.done))) .stop) (.alt 18 (.alt 16 (.take 19 (.take 20 (.done))) .stop) (.stop))) (.alt 18 (.alt 15 (.alt 16 (.take 19 (.take 20 (.done))) .stop) .stop) (.stop))))) (.alt 18 (.alt 11 (.take 13 (.take 14 (.alt 15 (.alt 16 (.take 19 (.take 20 (.done))) .stop) .stop))) .stop) (.stop))))))))))) .stop))))) (fun s hx => hx = h' ∧ s 34 = .v (.bool (lessAt l i k)) ∧ s 0 = .ptr id 0 ∧ s 1 = .sl 1 (k.map encB) ∧ s 6 = .box [.sl 1 (k.map encB), .sl 1 (v.map encB)] ∧ s 7 = .v (.int .i64 i)) (by kernel_rfl) (by kernel_rfl) (by kernel_rfl) (by decide) ?_ ?_
    · by_cases hlt : i < l.length
      · have c1 : decide ((i : Int) < l.length) = true := decide_eq_true (by omega)
        obtain ⟨p, hp⟩ : ∃ p, l[i] = p := ⟨_, rfl⟩
        have hv : (lessAt l i k) = decide (kLt p.1 k) := by unfold lessAt; rw [List.getElem?_eq_getElem hlt, hp]; rfl
        simp only [hv]
        repeat' first
          | with_reducible exact True.intro
          | simp -dsimp only [Vm.E, List.lookup, Nat.reduceAdd, Nat.reduceBEq, Int.reduceBNe, Int.reduceBEq, Bool.true_beq, Bool.false_beq, Vm.S, Nat.reduceLeDiff, fo135_0, hh, of64, es64, as64, Tryz.underlying124, cs124, fo126_0, fo126_1, of124, AV.cells, Tryz.underlying64, c1, str_eql, str_lss, toList_mk, bytesLess_cb]
          | refine strOf_sl bt124 k rfl ?_
          | refine strOf_sl bt124 p.1 rfl ?_
          | (refine idx_map kvAv l i hlt ?_; simp only [hp, kvAv])
          | refine tree_alt ?_ ?_
      · have c1 : decide ((i : Int) < l.length) = false := decide_eq_false (by omega)
        have hv : (lessAt l i k) = false := by unfold lessAt; rw [List.getElem?_eq_none (by omega)]; rfl
        simp only [hv]
        repeat' first
          | with_reducible exact True.intro
          | simp -dsimp only [Vm.E, List.lookup, Nat.reduceAdd, Nat.reduceBEq, Int.reduceBNe, Int.reduceBEq, Bool.true_beq, Bool.false_beq, Vm.S, Nat.reduceLeDiff, fo135_0, hh, of64, es64, as64, Tryz.underlying124, cs124, fo126_0, fo126_1, of124, AV.cells, Tryz.underlying64, c1]
          | refine tree_alt ?_ ?_
    · rintro s h2 ⟨rfl, e34, e0, e1, e6, e7⟩
      cases hb2 : lessAt l i k
      · rw [hb2] at e34
        simp -dsimp only [Vm.E, List.lookup, Nat.reduceAdd, Nat.reduceBEq, Int.reduceBNe, Int.reduceBEq, Bool.true_beq, Bool.false_beq, e34, e0, e1, e6, e7]
        refine draw_cont [] (.take 0 (.take 1 (.take 2 (.take 3 (.alt 4 (.take 5 (.take 6 (.take 7 (.take 8 (.take 9 (.take 10 (.take 12 (.take 17 (.alt 11 (.take 13 (.take 14 (.alt 15 (.alt 16 (.alt 18 (.take 19 (.take 20 (.done))) .stop) (.alt 18 (.alt 16 (.take 19 (.take 20 (.done))) .stop) (.stop))) (.alt 18 (.alt 15 (.alt 16 (.take 19 (.take 20 (.done))) .stop) .stop) (.stop))))) (.alt 18 (.alt 11 (.take 13 (.take 14 (.alt 15 (.alt 16 (.take 19 (.take 20 (.done))) .stop) .stop))) .stop) (.stop))))))))))) .stop))))) (fun s hx => hx = h2 ∧ s 57 = .v (.bool (sameAt l i k)) ∧ s 0 = .ptr id 0 ∧ s 1 = .sl 1 (k.map encB) ∧ s 6 = .box [.sl 1 (k.map encB), .sl 1 (v.map encB)] ∧ s 7 = .v (.int .i64 i)) (by kernel_rfl) (by kernel_rfl) (by kernel_rfl) (by decide) ?_ ?_
        · by_cases hlt : i < l.length
          · have c1 : decide ((i : Int) < l.length) = true := decide_eq_true (by omega)
            obtain ⟨p, hp⟩ : ∃ p, l[i] = p := ⟨_, rfl⟩
            have hv : (sameAt l i k) = (p.1 == k) := by unfold sameAt; rw [List.getElem?_eq_getElem hlt, hp]; rfl
            simp only [hv]
            repeat' first
              | with_reducible exact True.intro
              | simp -dsimp only [Vm.E, List.lookup, Nat.reduceAdd, Nat.reduceBEq, Int.reduceBNe, Int.reduceBEq, Bool.true_beq, Bool.false_beq, Vm.S, Nat.reduceLeDiff, fo135_0, hh, of64, es64, as64, Tryz.underlying124, cs124, fo126_0, fo126_1, of124, AV.cells, Tryz.underlying64, c1, str_eql, str_lss, toList_mk, bytesLess_cb, e34, e0, e1, e6, e7]
              | refine strOf_sl bt124 k rfl ?_
              | refine strOf_sl bt124 p.1 rfl ?_
              | (refine idx_map kvAv l i hlt ?_; simp only [hp, kvAv])
              | refine tree_alt ?_ ?_
          · have c1 : decide ((i : Int) < l.length) = false := decide_eq_false (by omega)
            have hv : (sameAt l i k) = false := by unfold sameAt; rw [List.getElem?_eq_none (by omega)]; rfl
            simp only [hv]
            repeat' first
              | with_reducible exact True.intro
              | simp -dsimp only [Vm.E, List.lookup, Nat.reduceAdd, Nat.reduceBEq, Int.reduceBNe, Int.reduceBEq, Bool.true_beq, Bool.false_beq, Vm.S, Nat.reduceLeDiff, fo135_0, hh, of64, es64, as64, Tryz.underlying124, cs124, fo126_0, fo126_1, of124, AV.cells, Tryz.underlying64, c1, e34, e0, e1, e6, e7]
              | refine tree_alt ?_ ?_
        · rintro s3 h3 ⟨rfl, e57, f0, f1, f6, f7⟩
          clear e34 e0 e1 e6 e7
          cases hb4 : sameAt l i k
          · rw [hb4] at e57
            simp -dsimp only [Vm.E, List.lookup, Nat.reduceAdd, Nat.reduceBEq, Int.reduceBNe, Int.reduceBEq, Bool.true_beq, Bool.false_beq, e57, f0, f1, f6, f7]
            have hput := tput_at (k := k) (v := v) (by omega) hb hb2 hb4
            have hil : i ≤ l.length := by omega
            have e1 : (l.map kvAv).take (i : Int).toNat = (l.take i).map kvAv := by rw [Int.toNat_natCast, List.map_take]
            have e2 : (l.map kvAv).drop (i : Int).toNat = (l.drop i).map kvAv := by rw [Int.toNat_natCast, List.map_drop]
            have hu : ∀ (l : List KV), ∀ c ∈ l.map kvAv, c.cells.length = 2 := fun l c hc => by obtain ⟨y, -, rfl⟩ := List.mem_map.1 hc; rfl
            have hfin : (l.take i).map kvAv ++ [AV.agg [.sl 1 (k.map encB), .sl 1 (v.map encB)]] ++ (l.drop i).map kvAv = (tput k v l).map kvAv := by rw [hput]; simp [kvAv]
            refine draw_cont [6] (.take 0 (.take 1 (.take 2 (.take 3 (.take 5 (.take 8 (.take 11 (.take 12 (.take 13 (.take 15 (.alt 4 (.take 6 (.alt 7 (.alt 9 (.alt 10 (.alt 14 (.take 16 (.alt 17 (.take 18 (.take 19 (.alt 20 (.done) .stop))) .stop)) .stop) (.alt 14 (.take 16 (.alt 10 (.alt 17 (.take 18 (.take 19 (.alt 20 (.done) .stop))) .stop) .stop)) (.stop))) (.alt 14 (.take 16 (.alt 9 (.alt 10 (.alt 17 (.take 18 (.take 19 (.alt 20 (.done) .stop))) .stop) .stop) .stop)) (.stop))) (.alt 9 (.alt 7 (.alt 10 (.alt 14 (.take 16 (.alt 17 (.take 18 (.take 19 (.alt 20 (.done) .stop))) .stop)) .stop) (.alt 14 (.take 16 (.alt 10 (.alt 17 (.take 18 (.take 19 (.alt 20 (.done) .stop))) .stop) .stop)) (.stop))) (.alt 14 (.take 16 (.alt 7 (.alt 10 (.alt 17 (.take 18 (.take 19 (.alt 20 (.done) .stop))) .stop) .stop) .stop)) (.stop))) (.alt 14 (.take 16 (.alt 7 (.alt 9 (.alt 10 (.alt 17 (.take 18 (.take 19 (.alt 20 (.done) .stop))) .stop) .stop) .stop) (.alt 9 (.alt 7 (.alt 10 (.alt 17 (.take 18 (.take 19 (.alt 20 (.done) .stop))) .stop) .stop) .stop) (.stop)))) (.stop))))) (.alt 9 (.alt 4 (.take 6 (.alt 7 (.alt 10 (.alt 14 (.take 16 (.alt 17 (.take 18 (.take 19 (.alt 20 (.done) .stop))) .stop)) .stop) (.alt 14 (.take 16 (.alt 10 (.alt 17 (.take 18 (.take 19 (.alt 20 (.done) .stop))) .stop) .stop)) (.stop))) (.alt 14 (.take 16 (.alt 7 (.alt 10 (.alt 17 (.take 18 (.take 19 (.alt 20 (.done) .stop))) .stop) .stop) .stop)) (.stop)))) (.alt 14 (.take 16 (.alt 4 (.take 6 (.alt 7 (.alt 10 (.alt 17 (.take 18 (.take 19 (.alt 20 (.done) .stop))) .stop) .stop) .stop)) .stop)) (.stop))) (.alt 14 (.take 16 (.alt 4 (.take 6 (.alt 7 (.alt 9 (.alt 10 (.alt 17 (.take 18 (.take 19 (.alt 20 (.done) .stop))) .stop) .stop) .stop) (.alt 9 (.alt 7 (.alt 10 (.alt 17 (.take 18 (.take 19 (.alt 20 (.done) .stop))) .stop) .stop) .stop) (.stop)))) (.alt 9 (.alt 4 (.take 6 (.alt 7 (.alt 10 (.alt 17 (.take 18 (.take 19 (.alt 20 (.done) .stop))) .stop) .stop) .stop)) .stop) (.stop)))) (.stop)))))))))))))) (fun s hx => hx = h3.set id (tabObj (tput k v l))) (by kernel_rfl) (by kernel_rfl) (by kernel_rfl) (by decide) ?_ ?_
            · clear hq hb hw
              repeat' first
                | with_reducible exact True.intro
                | simp -dsimp only [Vm.E, List.lookup, Nat.reduceAdd, Nat.reduceBEq, Int.reduceBNe, Int.reduceBEq, Bool.true_beq, Bool.false_beq, Vm.S, Nat.reduceLeDiff, fo135_0, hh, of64, es64, as64, Tryz.underlying124, cs124, fo126_0, fo126_1, of124, AV.cells, Tryz.underlying64, f0, f1, f6, f7, e1, e2, List.nil_append, of126, append_nil ei64, append_own ei64, hfin, tabObj, sz64]
                | refine tree_alt ?_ ?_
                | refine slice_h es64 (by omega) (by rw [List.length_map]; omega) ?_
                | refine slice_l es64 (by omega) (by rw [List.length_map]; omega) ?_
                | refine bs_intro zr126 (by decide) (by decide) rfl rfl (by simp [solid, AV.cells]) ?_
                | refine app_sl Tryz.underlying64 (hu _) (by simp only [List.length_map, List.length_nil, List.length_append, List.length_cons, List.length_take, List.length_drop]; omega) ?_
                | refine app_sl Tryz.underlying64 (by simp [AV.cells]) (by simp only [List.length_map, List.length_nil, List.length_append, List.length_cons, List.length_take, List.length_drop]; omega) ?_
            · rintro s4 h4 rfl
              simp -dsimp only [Vm.E, List.lookup, Nat.reduceAdd, Nat.reduceBEq, Int.reduceBNe, Int.reduceBEq, Bool.true_beq, Bool.false_beq, Tryz.results138]
              exact hq
          · rw [hb4] at e57
            obtain ⟨hlt, heq⟩ := sameAt_true hb4
            have hset := tput_set k v l i hlt (fun j hj => hb j _ hj) heq
            simp -dsimp only [Vm.E, List.lookup, Nat.reduceAdd, Nat.reduceBEq, Int.reduceBNe, Int.reduceBEq, Bool.true_beq, Bool.false_beq, Vm.S, Nat.reduceLeDiff, fo135_0, hh, of64, es64, as64, Tryz.underlying124, cs124, fo126_0, fo126_1, of124, AV.cells, Tryz.underlying64, e57, f0, f1, f6, f7, append_nil ei64]
            refine app_sl Tryz.underlying64 (fun c hc => by obtain ⟨y, -, rfl⟩ := List.mem_map.1 hc; rfl) (by simp only [List.length_map, List.length_nil]; omega) ?_
            simp -dsimp only [Vm.E, List.lookup, Nat.reduceAdd, Nat.reduceBEq, Int.reduceBNe, Int.reduceBEq, Bool.true_beq, Bool.false_beq, Vm.S, Nat.reduceLeDiff, fo135_0, hh, of64, es64, as64, Tryz.underlying124, cs124, fo126_0, fo126_1, of124, AV.cells, Tryz.underlying64, e57, f0, f1, f6, f7, List.nil_append, of126]
            refine idxO_intro (by omega) (by simp; omega) ?_
            simp -dsimp only [Vm.E, List.lookup, Nat.reduceAdd, Nat.reduceBEq, Int.reduceBNe, Int.reduceBEq, Bool.true_beq, Bool.false_beq, Vm.S, Nat.reduceLeDiff, fo135_0, hh, of64, es64, as64, Tryz.underlying124, cs124, fo126_0, fo126_1, of124, AV.cells, Tryz.underlying64, e57, f0, f1, f6, f7, of126, sz126, Int.toNat_natCast]
            have hre : (l.map kvAv).set i (.agg [.sl 1 (k.map encB), .sl 1 (v.map encB)]) = (tput k v l).map kvAv := by rw [hset, List.map_set]; rfl
            refine store_elt 126 (l.map kvAv) (by simp -dsimp only [Vm.E, List.lookup, Nat.reduceAdd, Nat.reduceBEq, Int.reduceBNe, Int.reduceBEq, Bool.true_beq, Bool.false_beq]) (y := kvAv l[i]) (by rw [List.getElem?_map, List.getElem?_eq_getElem hlt]; rfl) rfl rfl (by omega) rfl ?_
            simp only [kvAv, AV.cells, putCells, reCell, List.take_zero, List.nil_append, List.length_cons, List.length_nil, Nat.zero_add, Nat.reduceAdd, List.drop_succ_cons, List.drop_zero, List.append_nil, List.drop_nil]
            simp -dsimp only [Vm.E, List.lookup, Nat.reduceAdd, Nat.reduceBEq, Int.reduceBNe, Int.reduceBEq, Bool.true_beq, Bool.false_beq, Vm.S, Nat.reduceLeDiff, fo135_0, hh, of64, es64, as64, AV.cells, Tryz.underlying64, f0, f1, f6, f7, hre, sz64, Tryz.results138]
            exact hq
      · rw [hb2] at e34
        obtain ⟨hlt, hk⟩ := lessAt_true hb2
        simp -dsimp only [Vm.E, List.lookup, Nat.reduceAdd, Nat.reduceBEq, Int.reduceBNe, Int.reduceBEq, Bool.true_beq, Bool.false_beq, e34, e0, e1, e6, e7]
        refine kept_intro ⟨l.length - (i + 1), by omega, _, le_mk [(0, .ptr id 0), (1, .sl 1 (k.map encB)), (6, .box [.sl 1 (k.map encB), .sl 1 (v.map encB)]), (7, .v (.int .i64 (i + 1 : Nat)))] ?_, i + 1, by omega, rfl, fun j hj hj2 => ?_, rfl⟩
        · simp only [List.forall_mem_cons, List.not_mem_nil, false_imp_iff, implies_true, and_true]
          simp -dsimp only [Vm.E, List.lookup, Nat.reduceAdd, Nat.reduceBEq, Int.reduceBNe, Int.reduceBEq, Bool.true_beq, Bool.false_beq, e0, e1, e6, e7, hw hlt]
          exact ⟨.refl _, .refl _, .refl _, .refl _⟩
        · by_cases hji : j = i
          · subst hji; exact hk
          · exact hb j hj (by omega)
end Go.Proofs.Lx
/- The reference's records: ref17, ref18. -/
set_option linter.unusedSimpArgs false
set_option linter.unusedVariables false
namespace Go.Proofs.Lx
open Go.Vm
attribute [local irreducible] awpArr awpBin awpMake awpAppend awpCvX awpStrOf awpBinX awpSlice awpBS awpStore awpAlloc awpCopy awpIndex awpDraw awpIdxX awpFa awpField awpLookup awpUpdate awpDelete awpClear awpRange awpNext awpEntry awpBuild awpClearS awpIdxL
theorem does_rPack : Does Tryz.prog 161 packSpec := by
  refine does_of_awp (good_cons does_refPut good_nil) Tryz.func161 rfl (by decide +kernel) (by decide +kernel) ?_
  rintro args h Q ⟨l, hl, hn, rfl, hq⟩
  refine ⟨by simp [Tryz.f161], ?_⟩
  rw [awpFunc_some (by rfl)]
  simp -dsimp only [Vm.E, List.lookup, Nat.reduceAdd, Nat.reduceBEq, Int.reduceBNe, Int.reduceBEq, Bool.true_beq, Bool.false_beq]
  refine awp_loop (fun m s h' => ∃ i : Nat, i + m = (l.take 15).length ∧ h' = h ∧ s = mk [(0, .sl 1 (l.map encI)), (3, .own true 5 1 ((packs 8 (l.take i)).map encB)), (4, .v (.int .i64 i))])
    (l.take 15).length _ (le_mk _ ?_) ⟨0, by omega, rfl, rfl⟩ ?_
  · simp only [List.forall_mem_cons, List.not_mem_nil, false_imp_iff, implies_true, and_true]
    simp -dsimp only [Vm.E, List.lookup, Nat.reduceAdd, Nat.reduceBEq, Int.reduceBNe, Int.reduceBEq, Bool.true_beq, Bool.false_beq]
    exact ⟨.refl _, .nil _ _ _ (by decide), .refl _⟩
  · rintro m s h' ⟨i, hi, rfl, rfl⟩
    have hlen : (l.take 15).length = min 15 l.length := List.length_take ..
    simp -dsimp only [Vm.E, List.lookup, Nat.reduceAdd, Nat.reduceBEq, Int.reduceBNe, Int.reduceBEq, Bool.true_beq, Bool.false_beq, Tryz.underlying30]
    by_cases a1 : i < l.length
    · have c1 : decide ((i : Int) < l.length) = true := decide_eq_true (by omega)
      simp -dsimp only [Vm.E, List.lookup, Nat.reduceAdd, Nat.reduceBEq, Int.reduceBNe, Int.reduceBEq, Bool.true_beq, Bool.false_beq, c1]
      by_cases a2 : i < 15
      · have c2 : decide ((i : Int) < 15) = true := decide_eq_true (by omega)
        simp -dsimp only [Vm.E, List.lookup, Nat.reduceAdd, Nat.reduceBEq, Int.reduceBNe, Int.reduceBEq, Bool.true_beq, Bool.false_beq, c2, es30, as30]
        refine idx_ints l i a1 ?_
        simp -dsimp only [Vm.E, List.lookup, Nat.reduceAdd, Nat.reduceBEq, Int.reduceBNe, Int.reduceBEq, Bool.true_beq, Bool.false_beq, of3]
        have hb := packs_length 8 (l.take i)
        have hti : (l.take i).length ≤ i := by rw [List.length_take]; omega
        have hr := hn l[i] (List.getElem_mem a1)
        have hw : IntKind.i64.wrap ((i : Int) + 1) = ((i + 1 : Nat) : Int) := by rw [wrap_i64 (by omega) (by omega)]; simp
        refine call_one (S := putSpec) rfl _ GaL.rfl ⟨packs 8 (l.take i), l[i], 8, by omega, hr.1, hr.2, rfl, ?_⟩
        simp only [putOf8, ← packs_take 8 l i a1]
        simp -dsimp only [Vm.E, List.lookup, Nat.reduceAdd, Nat.reduceBEq, Int.reduceBNe, Int.reduceBEq, Bool.true_beq, Bool.false_beq]
        refine kept_intro ⟨(l.take 15).length - (i + 1), by omega, _, le_mk [(0, .sl 1 (l.map encI)), (3, .own true 5 1 ((packs 8 (l.take (i + 1))).map encB)), (4, .v (.int .i64 (i + 1 : Nat)))] ?_, i + 1, by omega, rfl, rfl⟩
        simp only [List.forall_mem_cons, List.not_mem_nil, false_imp_iff, implies_true, and_true]
        simp -dsimp only [Vm.E, List.lookup, Nat.reduceAdd, Nat.reduceBEq, Int.reduceBNe, Int.reduceBEq, Bool.true_beq, Bool.false_beq, hw]
        exact ⟨.refl _, .refl _, .refl _⟩
      · have c2 : decide ((i : Int) < 15) = false := decide_eq_false (by omega)
        simp -dsimp only [Vm.E, List.lookup, Nat.reduceAdd, Nat.reduceBEq, Int.reduceBNe, Int.reduceBEq, Bool.true_beq, Bool.false_beq, c2, Tryz.results161]
        have : i = 15 := by omega
        subst this
        exact hq
    · have c1 : decide ((i : Int) < l.length) = false := decide_eq_false (by omega)
      simp -dsimp only [Vm.E, List.lookup, Nat.reduceAdd, Nat.reduceBEq, Int.reduceBNe, Int.reduceBEq, Bool.true_beq, Bool.false_beq, c1, Tryz.results161]
      unfold packOf at hq
      rw [List.take_of_length_le (by omega)] at hq
      rw [List.take_of_length_le (by omega)]
      exact hq
theorem does_rKey : Does Tryz.prog 96 keySpec := by
  refine does_of_awp (good_cons does_refPut good_nil) Tryz.func96 rfl (by decide +kernel) (by decide +kernel) ?_
  rintro args h Q ⟨tag, l, hl, rfl, hq⟩
  refine ⟨by simp [Tryz.f96], ?_⟩
  rw [awpFunc_some (by rfl)]
  simp -dsimp only [Vm.E, List.lookup, Nat.reduceAdd, Nat.reduceBEq, Int.reduceBNe, Int.reduceBEq, Bool.true_beq, Bool.false_beq, es124]
  refine bs_intro zr5 (by decide) (by decide) rfl rfl (by simp [solid, AV.cells]) ?_
  simp -dsimp only [Vm.E, List.lookup, Nat.reduceAdd, Nat.reduceBEq, Int.reduceBNe, Int.reduceBEq, Bool.true_beq, Bool.false_beq]
  refine awp_loop (fun m s h' => ∃ i : Nat, i + m = (l.take 7).length ∧ h' = h ∧ s = mk [(1, .sl 1 (l.map encI)), (5, .own true 5 1 ((tag :: packs 4 ((l.map clampK).take i)).map encB)), (6, .v (.int .i64 i))])
    (l.take 7).length _ (le_mk _ ?_) ⟨0, by omega, rfl, rfl⟩ ?_
  · simp only [List.forall_mem_cons, List.not_mem_nil, false_imp_iff, implies_true, and_true]
    simp -dsimp only [Vm.E, List.lookup, Nat.reduceAdd, Nat.reduceBEq, Int.reduceBNe, Int.reduceBEq, Bool.true_beq, Bool.false_beq]
    exact ⟨.refl _, .refl _, .refl _⟩
  · rintro m s h' ⟨i, hi, rfl, rfl⟩
    have hlen : (l.take 7).length = min 7 l.length := List.length_take ..
    simp -dsimp only [Vm.E, List.lookup, Nat.reduceAdd, Nat.reduceBEq, Int.reduceBNe, Int.reduceBEq, Bool.true_beq, Bool.false_beq, Tryz.underlying30]
    by_cases a1 : i < l.length
    · have c1 : decide ((i : Int) < l.length) = true := decide_eq_true (by omega)
      simp -dsimp only [Vm.E, List.lookup, Nat.reduceAdd, Nat.reduceBEq, Int.reduceBNe, Int.reduceBEq, Bool.true_beq, Bool.false_beq, c1]
      by_cases a2 : i < 7
      · have c2 : decide ((i : Int) < 7) = true := decide_eq_true (by omega)
        simp -dsimp only [Vm.E, List.lookup, Nat.reduceAdd, Nat.reduceBEq, Int.reduceBNe, Int.reduceBEq, Bool.true_beq, Bool.false_beq, c2, es30, as30]
        refine idx_ints l i a1 ?_
        simp -dsimp only [Vm.E, List.lookup, Nat.reduceAdd, Nat.reduceBEq, Int.reduceBNe, Int.reduceBEq, Bool.true_beq, Bool.false_beq, of3]
        have hlt' : i < (l.map clampK).length := by simpa using a1
        have hb := packs_length 4 ((l.map clampK).take i)
        have hti : ((l.map clampK).take i).length ≤ i := by rw [List.length_take]; omega
        have hr := clampK_range l[i]
        have hget : (l.map clampK)[i] = clampK l[i] := by simp
        have hw : IntKind.i64.wrap ((i : Int) + 1) = ((i + 1 : Nat) : Int) := by rw [wrap_i64 (by omega) (by omega)]; simp
        refine call_one (S := putSpec) rfl _ GaL.rfl ⟨tag :: packs 4 ((l.map clampK).take i), clampK l[i], 4, by simp only [List.length_cons]; omega, by omega, by omega, rfl, ?_⟩
        have hput : putOf (tag :: packs 4 ((l.map clampK).take i)) (clampK l[i]) 4 = tag :: packs 4 ((l.map clampK).take (i + 1)) := by
          rw [putOf4 _ _ hr.1 hr.2, List.cons_append, ← hget, ← packs_take 4 (l.map clampK) i hlt']
        simp only [hput]
        simp -dsimp only [Vm.E, List.lookup, Nat.reduceAdd, Nat.reduceBEq, Int.reduceBNe, Int.reduceBEq, Bool.true_beq, Bool.false_beq]
        refine kept_intro ⟨(l.take 7).length - (i + 1), by omega, _, le_mk [(1, .sl 1 (l.map encI)), (5, .own true 5 1 ((tag :: packs 4 ((l.map clampK).take (i + 1))).map encB)), (6, .v (.int .i64 (i + 1 : Nat)))] ?_, i + 1, by omega, rfl, rfl⟩
        simp only [List.forall_mem_cons, List.not_mem_nil, false_imp_iff, implies_true, and_true]
        simp -dsimp only [Vm.E, List.lookup, Nat.reduceAdd, Nat.reduceBEq, Int.reduceBNe, Int.reduceBEq, Bool.true_beq, Bool.false_beq, hw]
        exact ⟨.refl _, .refl _, .refl _⟩
      · have c2 : decide ((i : Int) < 7) = false := decide_eq_false (by omega)
        simp -dsimp only [Vm.E, List.lookup, Nat.reduceAdd, Nat.reduceBEq, Int.reduceBNe, Int.reduceBEq, Bool.true_beq, Bool.false_beq, c2, Tryz.results96]
        have : i = 7 := by omega
        subst this
        unfold keyOf at hq
        rw [List.map_take] at hq
        exact hq
    · have c1 : decide ((i : Int) < l.length) = false := decide_eq_false (by omega)
      simp -dsimp only [Vm.E, List.lookup, Nat.reduceAdd, Nat.reduceBEq, Int.reduceBNe, Int.reduceBEq, Bool.true_beq, Bool.false_beq, c1, Tryz.results96]
      unfold keyOf at hq
      rw [List.map_take, List.take_of_length_le (by simp; omega)] at hq
      rw [List.take_of_length_le (l := l.map clampK) (by simp; omega)]
      exact hq
theorem does_rUnpack : Does Tryz.prog 166 unpackSpec := by
  refine does_of_awp (good_cons does_refGet good_nil) Tryz.func166 rfl (by decide +kernel) (by decide +kernel) ?_
  rintro args h Q ⟨b, many, hl, hm, rfl, hq⟩
  refine ⟨by simp [Tryz.f166], ?_⟩
  rw [awpFunc_some (by rfl)]
  unfold unpackRes at hq
  simp -dsimp only [Vm.E, List.lookup, Nat.reduceAdd, Nat.reduceBEq, Int.reduceBNe, Int.reduceBEq, Bool.true_beq, Bool.false_beq]
  cases h0 : decide (many < 0)
  · have h0' : ¬ many < 0 := of_decide_eq_false h0
    simp -dsimp only [Vm.E, List.lookup, Nat.reduceAdd, Nat.reduceBEq, Int.reduceBNe, Int.reduceBEq, Bool.true_beq, Bool.false_beq]
    cases h1 : decide (many > 15)
    · have h1' : ¬ 15 < many := of_decide_eq_false h1
      rw [if_neg (by omega)] at hq
      have hw8 : IntKind.i64.wrap (8 * many) = 8 * many := wrap_i64 (by omega) (by omega)
      simp -dsimp only [Vm.E, List.lookup, Nat.reduceAdd, Nat.reduceBEq, Int.reduceBNe, Int.reduceBEq, Bool.true_beq, Bool.false_beq, Tryz.underlying124, hw8]
      cases h2 : ((b.length : Int) != 8 * many)
      · have h2' : (b.length : Int) = 8 * many := by simpa using h2
        rw [if_neg (by omega)] at hq
        obtain ⟨k, rfl⟩ : ∃ k : Nat, many = k := ⟨many.toNat, by omega⟩
        rw [Int.toNat_natCast] at hq
        have hk : k ≤ 15 := by omega
        simp -dsimp only [Vm.E, List.lookup, Nat.reduceAdd, Nat.reduceBEq, Int.reduceBNe, Int.reduceBEq, Bool.true_beq, Bool.false_beq]
        refine awp_loop (fun m s h' => ∃ i : Nat, i + m = k ∧ h' = h ∧ s = mk [(0, .sl 1 (b.map encB)), (1, .v (.int .i64 k)), (6, .own true 3 1 ((numsOf b i).map encI)), (7, .v (.int .i64 i))])
          k _ (le_mk _ ?_) ⟨0, by omega, rfl, rfl⟩ ?_
        · simp only [List.forall_mem_cons, List.not_mem_nil, false_imp_iff, implies_true, and_true]
          simp -dsimp only [Vm.E, List.lookup, Nat.reduceAdd, Nat.reduceBEq, Int.reduceBNe, Int.reduceBEq, Bool.true_beq, Bool.false_beq]
          exact ⟨.refl _, .refl _, .nil _ _ _ (by decide), .refl _⟩
        · rintro m s h' ⟨i, hi, rfl, rfl⟩
          simp -dsimp only [Vm.E, List.lookup, Nat.reduceAdd, Nat.reduceBEq, Int.reduceBNe, Int.reduceBEq, Bool.true_beq, Bool.false_beq]
          refine cond_intro (fun hc => ?_) (fun hc => ?_)
          · have hlt : i < k := by have := of_decide_eq_true hc; omega
            have hwi : IntKind.i64.wrap (8 * (i : Int)) = ((8 * i : Nat) : Int) := by rw [wrap_i64 (by omega) (by omega)]; simp
            have hw : IntKind.i64.wrap ((i : Int) + 1) = ((i + 1 : Nat) : Int) := by rw [wrap_i64 (by omega) (by omega)]; simp
            simp -dsimp only [Vm.E, List.lookup, Nat.reduceAdd, Nat.reduceBEq, Int.reduceBNe, Int.reduceBEq, Bool.true_beq, Bool.false_beq, hwi]
            refine call_one (S := getSpec) rfl _ GaL.rfl ⟨b, ((8 * i : Nat) : Int), 8, by omega, by omega, rfl, ?_⟩
            simp only [getRes8 b i (by omega)]
            simp -dsimp only [Vm.E, List.lookup, Nat.reduceAdd, Nat.reduceBEq, Int.reduceBNe, Int.reduceBEq, Bool.true_beq, Bool.false_beq, es30]
            refine bs_intro zr3 (by decide) (by decide) rfl rfl (by simp [solid, AV.cells]) ?_
            simp -dsimp only [Vm.E, List.lookup, Nat.reduceAdd, Nat.reduceBEq, Int.reduceBNe, Int.reduceBEq, Bool.true_beq, Bool.false_beq, append_own ei30]
            refine app_sl Tryz.underlying30 (by simp [AV.cells]) (by simp [numsOf]; omega) ?_
            simp -dsimp only [Vm.E, List.lookup, Nat.reduceAdd, Nat.reduceBEq, Int.reduceBNe, Int.reduceBEq, Bool.true_beq, Bool.false_beq]
            have e3 : (numsOf b i).map encI ++ [AV.v (.int .i64 (num8 b i))] = (numsOf b (i + 1)).map encI := by simp [numsOf, List.range_succ, encI]
            refine kept_intro ⟨k - (i + 1), by omega, _, le_mk [(0, .sl 1 (b.map encB)), (1, .v (.int .i64 k)), (6, .own true 3 1 ((numsOf b (i + 1)).map encI)), (7, .v (.int .i64 (i + 1 : Nat)))] ?_, i + 1, by omega, rfl, rfl⟩
            simp only [List.forall_mem_cons, List.not_mem_nil, false_imp_iff, implies_true, and_true]
            simp -dsimp only [Vm.E, List.lookup, Nat.reduceAdd, Nat.reduceBEq, Int.reduceBNe, Int.reduceBEq, Bool.true_beq, Bool.false_beq, hw, e3]
            exact ⟨.refl _, .refl _, .refl _, .refl _⟩
          · have hge : ¬ i < k := by have := of_decide_eq_false hc; omega
            simp -dsimp only [Vm.E, List.lookup, Nat.reduceAdd, Nat.reduceBEq, Int.reduceBNe, Int.reduceBEq, Bool.true_beq, Bool.false_beq, Tryz.results166]
            obtain rfl : i = k := by omega
            exact hq
      · have h2' : ¬ (b.length : Int) = 8 * many := by simpa using h2
        rw [if_pos h2'] at hq
        simp -dsimp only [Vm.E, List.lookup, Nat.reduceAdd, Nat.reduceBEq, Int.reduceBNe, Int.reduceBEq, Bool.true_beq, Bool.false_beq, Tryz.results166]
        exact hq
    · have h1' : 15 < many := of_decide_eq_true h1
      rw [if_pos (.inr h1')] at hq
      simp -dsimp only [Vm.E, List.lookup, Nat.reduceAdd, Nat.reduceBEq, Int.reduceBNe, Int.reduceBEq, Bool.true_beq, Bool.false_beq, Tryz.results166]
      exact hq
  · have h0' : many < 0 := of_decide_eq_true h0
    rw [if_pos (.inl h0')] at hq
    simp -dsimp only [Vm.E, List.lookup, Nat.reduceAdd, Nat.reduceBEq, Int.reduceBNe, Int.reduceBEq, Bool.true_beq, Bool.false_beq, Tryz.results166]
    exact hq
end Go.Proofs.Lx
/- The reference's view. -/
set_option linter.unusedSimpArgs false
set_option linter.unusedVariables false
namespace Go.Proofs.Lx
open Go.Vm
attribute [local irreducible] awpArr awpBin awpMake awpAppend awpCvX awpStrOf awpBinX awpSlice awpBS awpStore awpAlloc awpCopy awpIndex awpDraw awpIdxX awpFa awpField awpLookup awpUpdate awpDelete awpClear awpRange awpNext awpEntry awpBuild awpClearS awpIdxL
def GaO (x y : AObj) : Prop := x = y ∨ ∃ a b, x = .cells a ∧ y = .cells b ∧ GaL a b
def GaH (h h' : Heap) : Prop := h.length = h'.length ∧ ∀ (i : Nat) (o' : AObj), h'[i]? = some o' → ∃ o : AObj, h[i]? = some o ∧ GaO o o'
theorem GaH.rep {w : World} {g : Gh} {h h' : Heap} (hg : GaH h h') (hh : HeapRep w g h) : HeapRep w g h' := by
  refine ⟨hg.1 ▸ hh.n, hh.lt, hh.inj, fun i o' ho' => ?_⟩
  obtain ⟨o, ho, hgo⟩ := hg.2 i o' ho'
  have hr := hh.obj i o ho
  rcases hgo with rfl | ⟨a, b, rfl, rfl, hab⟩
  · exact hr
  · obtain ⟨vs, e, h1, h2, h3, h4, h5⟩ := hr
    obtain ⟨q1, q2⟩ := gaL_rep (w := w) (g := g) hab
    exact ⟨vs, e, h1, q1 ▸ h2, h3, fun j hj => h4 j (by omega), q2 (fun j => vs.getD j undef) h5⟩
def WeakH (S : Vm.Spec) : Vm.Spec := fun args h Q => ∃ h', GaH h h' ∧ S args h' fun r h2 => ∃ h3, GaH h2 h3 ∧ Q r h3
theorem does_weakH {P : Program} {f : FuncId} {S : Vm.Spec} (hd : Does P f S) : Does P f (WeakH S) := by
  refine ⟨hd.1, fun args h Q ⟨h', hg, hS⟩ w g vs hvs hrep hh hf hlaid => (hd.2 args h' _ hS w g vs hvs hrep (hg.rep hh) hf hlaid).mono ?_⟩
  rintro e w' ⟨r, h2, g', v, ⟨h3, hg3, hq⟩, he, hres, hhr, hrest⟩
  exact ⟨r, h3, g', v, hq, he, hres, hg3.rep hhr, hrest⟩
theorem GaH.refl (h : Heap) : GaH h h := ⟨rfl, fun i o ho => ⟨o, ho, .inl rfl⟩⟩
theorem GaH.append {h : Heap} {a b : List AObj} (hab : a.length = b.length) (hi : ∀ (i : Nat) (o' : AObj), b[i]? = some o' → ∃ o, a[i]? = some o ∧ GaO o o') : GaH (h ++ a) (h ++ b) := by
  refine ⟨by simp [hab], fun i o' ho' => ?_⟩
  rcases Nat.lt_or_ge i h.length with hl | hl
  · rw [List.getElem?_append_left hl] at ho' ⊢
    exact ⟨o', ho', .inl rfl⟩
  · rw [List.getElem?_append_right hl] at ho' ⊢
    exact hi _ _ ho'
structure RId where
  iv : Nat
  iw : Nat
  inn : Nat
  it : Nat
/-- A view of the reference: what each key has. -/
def isRef (h : Heap) (R : RId) (f : Fun) : Prop :=
  ∃ lw ln lt : List KV, h[R.iv]? = some (.cells [.ptr R.iw 0, .ptr R.inn 0, .ptr R.it 0]) ∧ h[R.iw]? = some (tabObj lw) ∧ h[R.inn]? = some (tabObj ln) ∧ h[R.it]? = some (tabObj lt) ∧
    (R.iv ≠ R.inn ∧ R.iv ≠ R.it ∧ R.inn ≠ R.it ∧ R.iw ≠ R.inn ∧ R.iw ≠ R.it) ∧ TabIs f ln ∧ (ln.length ≤ f.n ∧ lt.length ≤ f.n) ∧ ∀ p ∈ ln, p.1.length ≤ 32 ∧ p.2.length ≤ 120
def rFoot (R : RId) : List Nat := [R.inn, R.it]
theorem isRef.len {h : Heap} {R : RId} {f : Fun} (hR : isRef h R f) {k l : List UInt8} (hf : f k = some l) : k.length ≤ 32 ∧ l.length ≤ 120 := by
  obtain ⟨lw, ln, lt, -, -, -, -, -, h6, -, h8⟩ := hR
  exact h8 (k, l) ((h6.2 k l).2 hf)
def rNewH (h : Heap) : Heap := h ++ [tabObj [], tabObj [], tabObj [], .cells [.ptr h.length 0, .ptr (h.length + 1) 0, .ptr (h.length + 2) 0]]
def rNewId (h : Heap) : RId := ⟨h.length + 3, h.length, h.length + 1, h.length + 2⟩
def rNewSpec : Vm.Spec := fun args h Q => args = [.sl 2 []] ∧ Q (.ptr (rNewId h).iv 0) (rNewH h)
theorem does_rNew0 : Does Tryz.prog 17 (fun args h Q => args = [.sl 2 []] ∧ Q (.ptr (h.length + 3) 0) (h ++ [tabObj [], tabObj [], .cells [.v (.slice none 0 0)], .cells [.ptr h.length 0, .ptr (h.length + 1) 0, .ptr (h.length + 2) 0]])) := by
  refine does_of_awp good_nil Tryz.func17 rfl (by decide +kernel) (by decide +kernel) ?_
  rintro args h Q ⟨rfl, hq⟩
  refine ⟨by simp [Tryz.f17], ?_⟩
  rw [awpFunc_some (by rfl)]
  unfold tabObj at hq
  simp -dsimp only [Vm.E, List.lookup, Nat.reduceAdd, Nat.reduceBEq, Int.reduceBNe, Int.reduceBEq, Bool.true_beq, Bool.false_beq, Vm.S, Nat.reduceLeDiff, bd135, bd137, Tryz.results17]
  simpa using hq
theorem does_rNew : Does Tryz.prog 17 rNewSpec := by
  refine (does_weakH does_rNew0).imp ?_
  rintro args h Q ⟨rfl, hq⟩
  refine ⟨h, .refl h, rfl, rNewH h, ?_, hq⟩
  refine GaH.append rfl fun i o' ho' => ?_
  match i, ho' with
  | 0, ho' => exact ⟨o', ho', .inl rfl⟩
  | 1, ho' => exact ⟨o', ho', .inl rfl⟩
  | 2, ho' => exact ⟨_, rfl, .inr ⟨_, _, rfl, (Option.some.inj ho').symm, .cons (.nil 2) .nil⟩⟩
  | 3, ho' => exact ⟨o', ho', .inl rfl⟩
  | i + 4, ho' => simp at ho'
theorem isRef_new (h : Heap) : isRef (rNewH h) (rNewId h) noF := by
  unfold rNewH rNewId
  refine ⟨[], [], [], ?_, ?_, ?_, ?_, ⟨by simp, by simp, by simp, by simp, by simp⟩, TabIs.new, ⟨by simp, by simp⟩, by simp⟩
  · rw [List.getElem?_append_right (by simp)]; simp
  · rw [List.getElem?_append_right (by simp)]; simp
  · rw [List.getElem?_append_right (by simp)]; simp
  · rw [List.getElem?_append_right (by simp)]; simp
def rGetSpec : Vm.Spec := fun args h Q => ∃ (R : RId) (f : Fun) (k : List UInt8), args = [.ptr R.iv 0, .sl 1 (k.map encB)] ∧ isRef h R f ∧ f.n ≤ 536870912 ∧
  (∀ l, f k = some l → Q (.tup [.sl 1 (l.map encB), .v (.bool true)]) h) ∧ (f k = none → Q (.tup [.sl 1 [], .v (.bool false)]) h)
theorem does_rGet : Does Tryz.prog 97 rGetSpec := by
  refine Does.imp (S := Weak fun args h Q => ∃ (R : RId) (f : Fun) (k : List UInt8), args = [.ptr R.iv 0, .sl 1 (k.map encB)] ∧ isRef h R f ∧ f.n ≤ 536870912 ∧
    (∀ l, f k = some l → Q (.tup [.sl 1 (l.map encB), .v (.bool true)]) h) ∧ (f k = none → Q (.tup [.v (.slice none 0 0), .v (.bool false)]) h)) (Does.weak ?_) ?_
  · refine does_of_awp (good_cons does_tGet good_nil) Tryz.func97 rfl (by decide +kernel) (by decide +kernel) ?_
    rintro args h Q ⟨R, f, k, rfl, hR, hn, hq1, hq2⟩
    refine ⟨by simp [Tryz.f97], ?_⟩
    rw [awpFunc_some (by rfl)]
    obtain ⟨lw, ln, lt, h1, h2, h3, h4, h5, h6, h7, h8⟩ := hR
    simp -dsimp only [Vm.E, List.lookup, Nat.reduceAdd, Nat.reduceBEq, Int.reduceBNe, Int.reduceBEq, Bool.true_beq, Bool.false_beq, Vm.S, Nat.reduceLeDiff, fo137_1, h1, of133]
    refine call_one (S := tGetSpec) rfl _ GaL.rfl ⟨R.inn, ln, k, rfl, h3, by omega, fun p hp => by have := (h8 p hp).2; omega, fun v hv => ?_, fun hv => ?_⟩
    · rw [h6.find] at hv
      simp -dsimp only [Vm.E, List.lookup, Nat.reduceAdd, Nat.reduceBEq, Int.reduceBNe, Int.reduceBEq, Bool.true_beq, Bool.false_beq, Tryz.results97]
      exact hq1 v hv
    · rw [h6.find] at hv
      simp -dsimp only [Vm.E, List.lookup, Nat.reduceAdd, Nat.reduceBEq, Int.reduceBNe, Int.reduceBEq, Bool.true_beq, Bool.false_beq, Tryz.results97]
      exact hq2 hv
  · rintro args h Q ⟨R, f, k, rfl, hR, hn, hq1, hq2⟩
    exact ⟨R, f, k, rfl, hR, hn, fun l hf => ⟨_, .refl _, hq1 l hf⟩, fun hf => ⟨_, .tup (.cons (.nil 1) GaL.rfl), hq2 hf⟩⟩
def rPutSpec : Vm.Spec := fun args h Q => ∃ (R : RId) (f : Fun) (k v : List UInt8), args = [.ptr R.iv 0, .sl 1 (k.map encB), .sl 1 (v.map encB)] ∧ isRef h R f ∧ f.n ≤ 536870912 ∧
  (rightKV k v = true → ∀ h', isRef h' R (upd f k (some v)) → Same h h' (rFoot R) → Q (.v (.int .i64 0)) h') ∧ (rightKV k v = false → Q (.v (.int .i64 1)) h)
theorem does_rPut : Does Tryz.prog 76 rPutSpec := by
  refine does_of_awp (good_cons does_rRight (good_cons does_tPut good_nil)) Tryz.func76 rfl (by decide +kernel) (by decide +kernel) ?_
  rintro args h Q ⟨R, f, k, v, rfl, hR, hn, hq1, hq2⟩
  refine ⟨by simp [Tryz.f76], ?_⟩
  rw [awpFunc_some (by rfl)]
  obtain ⟨lw, ln, lt, h1, h2, h3, h4, h5, h6, h7, h8⟩ := hR
  simp -dsimp only [Vm.E, List.lookup, Nat.reduceAdd, Nat.reduceBEq, Int.reduceBNe, Int.reduceBEq, Bool.true_beq, Bool.false_beq, Vm.S, Nat.reduceLeDiff]
  refine call_one (S := rRightSpec) rfl _ GaL.rfl ⟨k, v, rfl, ?_⟩
  cases hr : rightKV k v
  · simp -dsimp only [Vm.E, List.lookup, Nat.reduceAdd, Nat.reduceBEq, Int.reduceBNe, Int.reduceBEq, Bool.true_beq, Bool.false_beq, Tryz.results76]
    exact hq2 hr
  · have hrk : k.length ≤ 32 ∧ v.length ≤ 120 := by unfold rightKV at hr; simp at hr; omega
    simp -dsimp only [Vm.E, List.lookup, Nat.reduceAdd, Nat.reduceBEq, Int.reduceBNe, Int.reduceBEq, Bool.true_beq, Bool.false_beq, Vm.S, Nat.reduceLeDiff, fo137_2, h1, of133]
    refine call_one (S := tPutSpec) rfl _ (.cons (.refl _) (.cons (.refl _) (.cons (.nil 1) .nil))) ⟨R.it, lt, k, [], rfl, h4, by omega, by omega, by simp, ?_⟩
    have hi : ∀ {i : Nat} {o : AObj} {h : Heap}, h[i]? = some o → i < h.length := fun {i o h} hx => by
      rcases Nat.lt_or_ge i h.length with h' | h'
      · exact h'
      · rw [List.getElem?_eq_none h'] at hx; cases hx
    have g1 : (h.set R.it (tabObj (tput k [] lt)))[R.iv]? = some (.cells [.ptr R.iw 0, .ptr R.inn 0, .ptr R.it 0]) := by rw [List.getElem?_set_ne (by exact fun e => h5.2.1 e.symm)]; exact h1
    have g3 : (h.set R.it (tabObj (tput k [] lt)))[R.inn]? = some (tabObj ln) := by rw [List.getElem?_set_ne (by exact fun e => h5.2.2.1 e.symm)]; exact h3
    have g2 : (h.set R.it (tabObj (tput k [] lt)))[R.iw]? = some (tabObj lw) := by rw [List.getElem?_set_ne (by exact fun e => h5.2.2.2.2 e.symm)]; exact h2
    have g4 : (h.set R.it (tabObj (tput k [] lt)))[R.it]? = some (tabObj (tput k [] lt)) := List.getElem?_set_self (hi h4)
    have gs : Same h (h.set R.it (tabObj (tput k [] lt))) (rFoot R) := ⟨by simp, fun i hl hi => List.getElem?_set_ne (by simp [rFoot] at hi; exact fun e => hi.2 e.symm)⟩
    generalize h.set R.it (tabObj (tput k [] lt)) = h2' at g1 g2 g3 g4 gs ⊢
    simp -dsimp only [Vm.E, List.lookup, Nat.reduceAdd, Nat.reduceBEq, Int.reduceBNe, Int.reduceBEq, Bool.true_beq, Bool.false_beq, Vm.S, Nat.reduceLeDiff, fo137_1, g1, of133]
    refine call_one (S := tPutSpec) rfl _ GaL.rfl ⟨R.inn, ln, k, v, rfl, g3, by omega, by omega, by omega, ?_⟩
    simp -dsimp only [Vm.E, List.lookup, Nat.reduceAdd, Nat.reduceBEq, Int.reduceBNe, Int.reduceBEq, Bool.true_beq, Bool.false_beq, Tryz.results76]
    refine hq1 hr _ ⟨lw, tput k v ln, tput k [] lt, ?_, ?_, ?_, ?_, h5, h6.put k v, ⟨?_, ?_⟩, fun p hp => ?_⟩ ?_
    · rw [List.getElem?_set_ne (by exact fun e => h5.1 e.symm)]; exact g1
    · rw [List.getElem?_set_ne (by exact fun e => h5.2.2.2.1 e.symm)]; exact g2
    · exact List.getElem?_set_self (hi g3)
    · rw [List.getElem?_set_ne h5.2.2.1]; exact g4
    · have := tput_length k v ln; show _ ≤ f.n + 1; omega
    · have := tput_length k [] lt; show _ ≤ f.n + 1; omega
    · rcases tput_mem1 hp with rfl | hp
      · exact hrk
      · exact h8 p hp
    · exact ⟨by rw [List.length_set]; exact gs.1, fun i hl hi => by
        rw [List.getElem?_set_ne (by simp [rFoot] at hi; exact fun e => hi.1 e.symm)]; exact gs.2 i hl hi⟩
end Go.Proofs.Lx
/- The reference's numbers and years. -/
set_option linter.unusedSimpArgs false
set_option linter.unusedVariables false
namespace Go.Proofs.Lx
open Go.Vm
attribute [local irreducible] awpArr awpBin awpMake awpAppend awpCvX awpStrOf awpBinX awpSlice awpBS awpStore awpAlloc awpCopy awpIndex awpDraw awpIdxX awpFa awpField awpLookup awpUpdate awpDelete awpClear awpRange awpNext awpEntry awpBuild awpClearS awpIdxL
end Go.Proofs.Lx
/- The reference's pairs that begin so; two views beside. -/
set_option linter.unusedSimpArgs false
set_option linter.unusedVariables false
namespace Go.Proofs.Lx
open Go.Vm
attribute [local irreducible] awpArr awpBin awpMake awpAppend awpCvX awpStrOf awpBinX awpSlice awpBS awpStore awpAlloc awpCopy awpIndex awpDraw awpIdxX awpFa awpField awpLookup awpUpdate awpDelete awpClear awpRange awpNext awpEntry awpBuild awpClearS awpIdxL awpTree appB
abbrev preL (pre : List UInt8) (l : List KV) : List KV := l.filter fun p => pre.isPrefixOf p.1
def tScanSpec : Vm.Spec := fun args h Q => ∃ (i : Nat) (l : List KV) (pre : List UInt8), args = [.ptr i 0, .sl 1 (pre.map encB)] ∧ h[i]? = some (tabObj l) ∧ l.length ≤ 1073741824 ∧ pre.length ≤ 1073741824 ∧ (∀ p ∈ l, p.1.length ≤ 32) ∧
  Q (.own true 126 2 ((preL pre l).map kvAv)) h
set_option maxRecDepth 20000 in
set_option maxHeartbeats 4000000 in
theorem does_tScan : Does Tryz.prog 151 tScanSpec := by
  refine does_of_awp good_nil Tryz.func151 rfl (by decide +kernel) (by decide +kernel) ?_
  rintro args h Q ⟨id, l, pre, rfl, hh, hl, hpl, hk32, hq⟩
  unfold tabObj at hh
  refine ⟨by simp [Tryz.f151], ?_⟩
  rw [awpFunc_some (by rfl)]
  simp -dsimp only [Vm.E, List.lookup, Nat.reduceAdd, Nat.reduceBEq, Int.reduceBNe, Int.reduceBEq, Bool.true_beq, Bool.false_beq]
  refine awp_loop (fun m s h' => ∃ i : Nat, i + m = l.length ∧ h' = h ∧ s = mk [(0, .ptr id 0), (1, .sl 1 (pre.map encB)), (5, .own true 126 2 ((preL pre (l.take i)).map kvAv)), (6, .v (.int .i64 i))])
    l.length _ (le_mk _ ?_) ⟨0, by omega, rfl, rfl⟩ ?_
  · simp only [List.forall_mem_cons, List.not_mem_nil, false_imp_iff, implies_true, and_true]
    simp -dsimp only [Vm.E, List.lookup, Nat.reduceAdd, Nat.reduceBEq, Int.reduceBNe, Int.reduceBEq, Bool.true_beq, Bool.false_beq]
    exact ⟨.refl _, .refl _, .nil _ _ _ (by decide), .refl _⟩
  · rintro m s h' ⟨i, hi, rfl, rfl⟩
    simp -dsimp only [Vm.E, List.lookup, Nat.reduceAdd, Nat.reduceBEq, Int.reduceBNe, Int.reduceBEq, Bool.true_beq, Bool.false_beq, fo135_0, hh, of64, Tryz.underlying64]
    refine cond_intro (fun hcc => ?_) (fun hcc => ?_)
    · have hlt : i < l.length := by have := of_decide_eq_true hcc; omega
      have hw : IntKind.i64.wrap ((i : Int) + 1) = ((i + 1 : Nat) : Int) := by rw [wrap_i64 (by omega) (by omega)]; simp
      obtain ⟨p, hp⟩ : ∃ p, l[i] = p := ⟨_, rfl⟩
      have hkp := hk32 p (hp ▸ List.getElem_mem hlt)
      have hpre : (preL pre (l.take i)).length ≤ i := Nat.le_trans (List.length_filter_le ..) (by rw [List.length_take]; omega)
      have est : preL pre (l.take (i + 1)) = preL pre (l.take i) ++ if pre.isPrefixOf p.1 then [p] else [] := by
        rw [List.take_succ_eq_append_getElem hlt, preL, List.filter_append, hp, List.filter_cons, List.filter_nil]
      simp -dsimp only [Vm.E, List.lookup, Nat.reduceAdd, Nat.reduceBEq, Int.reduceBNe, Int.reduceBEq, Bool.true_beq, Bool.false_beq, fo135_0, hh, of64, es64, as64]
      refine idx_map kvAv l i hlt ?_
      simp only [hp, kvAv]
      simp -dsimp only [Vm.E, List.lookup, Nat.reduceAdd, Nat.reduceBEq, Int.reduceBNe, Int.reduceBEq, Bool.true_beq, Bool.false_beq, Vm.S, Nat.reduceLeDiff, AV.cells, fo126_0, of124]
      have e1 : (p.1.map encB).take (pre.length : Int).toNat = (p.1.take pre.length).map encB := by rw [Int.toNat_natCast, List.map_take]
      refine draw_cont [] (.take 0 (.take 1 (.take 2 (.take 3 (.take 4 (.take 5 (.take 6 (.take 7 (.take 8 (.take 9 (.take 11 (.alt 10 (.alt 12 (.take 13 (.take 14 (.done))) .stop) (.alt 12 (.alt 10 (.take 13 (.take 14 (.done))) .stop) (.stop)))))))))))))) (fun s hx => hx = h' ∧ s 39 = .v (.bool (pre.isPrefixOf p.1)) ∧ s 0 = .ptr id 0 ∧ s 1 = .sl 1 (pre.map encB) ∧ s 5 = .own true 126 2 ((preL pre (l.take i)).map kvAv) ∧ s 6 = .v (.int .i64 i)) (by kernel_rfl) (by kernel_rfl) (by kernel_rfl) (by decide) ?_ ?_
      · by_cases hle : pre.length ≤ p.1.length
        · have c1 : decide ((p.1.length : Int) ≥ pre.length) = true := decide_eq_true (by omega)
          simp only [← isPrefixOf_take p.1 pre hle]
          repeat' first
            | with_reducible exact True.intro
            | simp -dsimp only [Vm.E, List.lookup, Nat.reduceAdd, Nat.reduceBEq, Int.reduceBNe, Int.reduceBEq, Bool.true_beq, Bool.false_beq, c1, e1, Tryz.underlying124, cs124, str_eql, toList_mk]
            | refine strOf_sl bt124 pre rfl ?_
            | refine strOf_sl bt124 (p.1.take pre.length) rfl ?_
            | refine slice_h es124 (by omega) (by rw [List.length_map]; omega) ?_
            | refine tree_alt ?_ ?_
        · have c1 : decide ((p.1.length : Int) ≥ pre.length) = false := decide_eq_false (by omega)
          simp only [isPrefixOf_long p.1 pre hle]
          repeat' first
            | with_reducible exact True.intro
            | simp -dsimp only [Vm.E, List.lookup, Nat.reduceAdd, Nat.reduceBEq, Int.reduceBNe, Int.reduceBEq, Bool.true_beq, Bool.false_beq, c1, Tryz.underlying124]
            | refine tree_alt ?_ ?_
      · rintro s hx ⟨rfl, e39, e0, e1, e5, e6⟩
        cases hb : pre.isPrefixOf p.1
        · rw [hb] at e39 est
          simp only [Bool.false_eq_true, if_false, List.append_nil] at est
          simp -dsimp only [Vm.E, List.lookup, Nat.reduceAdd, Nat.reduceBEq, Int.reduceBNe, Int.reduceBEq, Bool.true_beq, Bool.false_beq, e39, e0, e1, e5, e6]
          refine kept_intro ⟨l.length - (i + 1), by omega, _, le_mk [(0, .ptr id 0), (1, .sl 1 (pre.map encB)), (5, .own true 126 2 ((preL pre (l.take (i + 1))).map kvAv)), (6, .v (.int .i64 (i + 1 : Nat)))] ?_, i + 1, by omega, rfl, rfl⟩
          simp only [List.forall_mem_cons, List.not_mem_nil, false_imp_iff, implies_true, and_true, est]
          simp -dsimp only [Vm.E, List.lookup, Nat.reduceAdd, Nat.reduceBEq, Int.reduceBNe, Int.reduceBEq, Bool.true_beq, Bool.false_beq, e39, e0, e1, e5, e6, hw]
          exact ⟨.refl _, .refl _, .refl _, .refl _⟩
        · rw [hb] at e39 est
          simp only [if_true] at est
          simp -dsimp only [Vm.E, List.lookup, Nat.reduceAdd, Nat.reduceBEq, Int.reduceBNe, Int.reduceBEq, Bool.true_beq, Bool.false_beq, e39, e0, e1, e5, e6, fo135_0, hh, of64, es64, as64]
          refine idx_map kvAv l i hlt ?_
          simp only [hp, kvAv]
          simp -dsimp only [Vm.E, List.lookup, Nat.reduceAdd, Nat.reduceBEq, Int.reduceBNe, Int.reduceBEq, Bool.true_beq, Bool.false_beq, e39, e0, e1, e5, e6, Vm.S, Nat.reduceLeDiff, AV.cells, of126, es64]
          refine bs_intro zr126 (by decide) (by decide) rfl rfl (by simp [solid, AV.cells]) ?_
          simp -dsimp only [Vm.E, List.lookup, Nat.reduceAdd, Nat.reduceBEq, Int.reduceBNe, Int.reduceBEq, Bool.true_beq, Bool.false_beq, e39, e0, e1, e5, e6, append_own ei64]
          refine app_sl Tryz.underlying64 (by simp [AV.cells]) (by simp only [List.length_map, List.length_cons, List.length_nil]; omega) ?_
          simp -dsimp only [Vm.E, List.lookup, Nat.reduceAdd, Nat.reduceBEq, Int.reduceBNe, Int.reduceBEq, Bool.true_beq, Bool.false_beq, e39, e0, e1, e5, e6]
          refine kept_intro ⟨l.length - (i + 1), by omega, _, le_mk [(0, .ptr id 0), (1, .sl 1 (pre.map encB)), (5, .own true 126 2 ((preL pre (l.take (i + 1))).map kvAv)), (6, .v (.int .i64 (i + 1 : Nat)))] ?_, i + 1, by omega, rfl, rfl⟩
          simp only [List.forall_mem_cons, List.not_mem_nil, false_imp_iff, implies_true, and_true, est, List.map_append, List.map_cons, List.map_nil, kvAv]
          simp -dsimp only [Vm.E, List.lookup, Nat.reduceAdd, Nat.reduceBEq, Int.reduceBNe, Int.reduceBEq, Bool.true_beq, Bool.false_beq, e39, e0, e1, e5, e6, hw]
          exact ⟨.refl _, .refl _, .refl _, .refl _⟩
    · have hge : ¬ i < l.length := by have := of_decide_eq_false hcc; omega
      simp -dsimp only [Vm.E, List.lookup, Nat.reduceAdd, Nat.reduceBEq, Int.reduceBNe, Int.reduceBEq, Bool.true_beq, Bool.false_beq, Tryz.results151]
      rw [List.take_of_length_le (by omega)]
      exact hq
def rScanSpec : Vm.Spec := fun args h Q => ∃ (R : RId) (f : Fun) (pre : List UInt8), args = [.ptr R.iv 0, .sl 1 (pre.map encB)] ∧ pre.length ≤ 1073741824 ∧ isRef h R f ∧ f.n ≤ 536870912 ∧
  ∀ l, ScanIs f pre l → l.length ≤ f.n → Q (.own true 126 2 (l.map kvAv)) h
theorem does_rScan : Does Tryz.prog 82 rScanSpec := by
  refine does_of_awp (good_cons does_tScan good_nil) Tryz.func82 rfl (by decide +kernel) (by decide +kernel) ?_
  rintro args h Q ⟨R, f, pre, rfl, hpl, hR, hn, hq⟩
  refine ⟨by simp [Tryz.f82], ?_⟩
  rw [awpFunc_some (by rfl)]
  obtain ⟨lw, ln, lt, h1, h2, h3, h4, h5, h6, h7, h8⟩ := hR
  simp -dsimp only [Vm.E, List.lookup, Nat.reduceAdd, Nat.reduceBEq, Int.reduceBNe, Int.reduceBEq, Bool.true_beq, Bool.false_beq, Vm.S, Nat.reduceLeDiff, fo137_1, h1, of133]
  refine call_one (S := tScanSpec) rfl _ GaL.rfl ⟨R.inn, ln, pre, rfl, h3, by omega, hpl, fun p hp => (h8 p hp).1, ?_⟩
  simp -dsimp only [Vm.E, List.lookup, Nat.reduceAdd, Nat.reduceBEq, Int.reduceBNe, Int.reduceBEq, Bool.true_beq, Bool.false_beq, Tryz.results82]
  exact hq _ (h6.scan pre) (Nat.le_trans (List.length_filter_le ..) h7.1)
def Both (h : Heap) (V : VId) (R : RId) (f : Fun) : Prop := isView h V f ∧ isRef h R f ∧ (∀ i ∈ [V.iv, V.ic, V.im], i ∉ [R.iv, R.iw, R.inn, R.it])
theorem get_lt {h : Heap} {i : Nat} {o : AObj} (hx : h[i]? = some o) : i < h.length := by
  rcases Nat.lt_or_ge i h.length with h' | h'
  · exact h'
  · rw [List.getElem?_eq_none h'] at hx; cases hx
theorem Same.get {h h' : Heap} {fp : List Nat} (hs : Same h h' fp) {i : Nat} {o : AObj} (hx : h[i]? = some o) (hi : i ∉ fp) : h'[i]? = some o := by rw [hs.2 i (get_lt hx) hi]; exact hx
theorem isView.same {h h' : Heap} {V : VId} {f : Fun} {fp : List Nat} (hV : isView h V f) (hs : Same h h' fp) (hd : ∀ i ∈ [V.iv, V.ic, V.im], i ∉ fp) : isView h' V f := by
  obtain ⟨chg, clk, mem, clk2, h1, h2, h3, h4⟩ := hV
  exact ⟨chg, clk, mem, clk2, hs.get h1 (hd _ (by simp)), hs.get h2 (hd _ (by simp)), hs.get h3 (hd _ (by simp)), h4⟩
theorem isRef.same {h h' : Heap} {R : RId} {f : Fun} {fp : List Nat} (hR : isRef h R f) (hs : Same h h' fp) (hd : ∀ i ∈ [R.iv, R.iw, R.inn, R.it], i ∉ fp) : isRef h' R f := by
  obtain ⟨lw, ln, lt, h1, h2, h3, h4, h5⟩ := hR
  exact ⟨lw, ln, lt, hs.get h1 (hd _ (by simp)), hs.get h2 (hd _ (by simp)), hs.get h3 (hd _ (by simp)), hs.get h4 (hd _ (by simp)), h5⟩
theorem Both.view {h h' : Heap} {V : VId} {R : RId} {f g : Fun} (hB : Both h V R f) (hV : isView h' V g) (hs : Same h h' [V.ic]) : isRef h' R f := by
  refine hB.2.1.same hs fun i hi hm => ?_
  rw [List.mem_singleton] at hm; subst hm
  exact hB.2.2 V.ic (by simp) hi
theorem Both.ref {h h' h2 : Heap} {V : VId} {R : RId} {f g : Fun} (hB : Both h V R f) (hV : isView h' V g) (hR : isRef h2 R g) (hs : Same h' h2 (rFoot R)) : Both h2 V R g := by
  refine ⟨hV.same hs fun i hi hm => ?_, hR, hB.2.2⟩
  refine hB.2.2 i hi ?_
  simp [rFoot] at hm ⊢
  rcases hm with rfl | rfl <;> simp
theorem Both.quiet {h h' : Heap} {V : VId} {R : RId} {f : Fun} (hB : Both h V R f) (hV : isView h' V f) (hs : Same h h' []) : Both h' V R f :=
  ⟨hV, hB.2.1.same hs (by simp), hB.2.2⟩
end Go.Proofs.Lx
/- The law TreeEnds. -/
set_option linter.unusedSimpArgs false
set_option linter.unusedVariables false
namespace Go.Proofs.Lx
open Go.Vm
attribute [local irreducible] awpArr awpBin awpMake awpAppend awpCvX awpStrOf awpBinX awpSlice awpBS awpStore awpAlloc awpCopy awpIndex awpDraw awpIdxX awpFa awpField awpLookup awpUpdate awpDelete awpClear awpRange awpNext awpEntry awpBuild awpClearS awpIdxL
def vnewASpec : Vm.Spec := fun args h Q => args = [nilP] ∧ ∀ V h', isView h' V noF → Q (.ptr V.iv 0) h'
theorem does_vnewA : Does Tryz.prog 12 vnewASpec := does_vnew.imp (by
  rintro args h Q ⟨rfl, hq⟩
  exact ⟨rfl, hq ⟨h.length + 2, h.length, h.length + 1⟩ _ (isView_new h)⟩)
theorem isA_nd {y : AV} (h : IsA (.agg [.int .i64, .int .i64, .int .i64, .int .i64, .int .i64, .bool, .int .i64, .int .i64, .int .i64, .int .i64, .int .i64, .int .i64]) y) : ∃ n : Nd, n.ok ∧ y = ndAv n := by
  simp only [IsA, IsAll] at h
  obtain ⟨ys, ⟨y1, r1, rfl, h1, y2, r2, rfl, h2, y3, r3, rfl, h3, y4, r4, rfl, h4, y5, r5, rfl, h5, y6, r6, rfl, h6, y7, r7, rfl, h7, y8, r8, rfl, h8, y9, r9, rfl, h9, y10, r10, rfl, h10, y11, r11, rfl, h11, y12, r12, rfl, h12, rfl⟩, rfl⟩ := h
  obtain ⟨a1, k1, rfl⟩ := isA_int (by simpa only [IsA] using h1)
  obtain ⟨a2, k2, rfl⟩ := isA_int (by simpa only [IsA] using h2)
  obtain ⟨a3, k3, rfl⟩ := isA_int (by simpa only [IsA] using h3)
  obtain ⟨a4, k4, rfl⟩ := isA_int (by simpa only [IsA] using h4)
  obtain ⟨a5, k5, rfl⟩ := isA_int (by simpa only [IsA] using h5)
  obtain ⟨a6, rfl⟩ := h6
  obtain ⟨a7, k7, rfl⟩ := isA_int (by simpa only [IsA] using h7)
  obtain ⟨a8, k8, rfl⟩ := isA_int (by simpa only [IsA] using h8)
  obtain ⟨a9, k9, rfl⟩ := isA_int (by simpa only [IsA] using h9)
  obtain ⟨a10, k10, rfl⟩ := isA_int (by simpa only [IsA] using h10)
  obtain ⟨a11, k11, rfl⟩ := isA_int (by simpa only [IsA] using h11)
  obtain ⟨a12, k12, rfl⟩ := isA_int (by simpa only [IsA] using h12)
  exact ⟨⟨a1, a2, a3, a4, a5, a6, a7, a8, a9, a10, a11, a12⟩, ⟨k1, k2, k3, k4, k5, k7, k8, k9, k10, k11, k12⟩, rfl⟩
end Go.Proofs.Lx
/- Balances: bal; the law BalBack. -/
set_option linter.unusedSimpArgs false
set_option linter.unusedVariables false
namespace Go.Proofs.Lx
open Go.Vm
attribute [local irreducible] awpArr awpBin awpMake awpAppend awpCvX awpStrOf awpBinX awpSlice awpBS awpStore awpAlloc awpCopy awpIndex awpDraw awpIdxX awpFa awpField awpLookup awpUpdate awpDelete awpClear awpRange awpNext awpEntry awpBuild awpClearS awpIdxL awpTree appB awpIdxO eltA treeA
structure Ln where
  fund : Int
  obj : Int
  node : Int
  amt : Int
end Go.Proofs.Lx
/- Lists of structs: the same, turned round. -/
set_option linter.unusedSimpArgs false
set_option linter.unusedVariables false
namespace Go.Proofs.Lx
open Go.Vm
attribute [local irreducible] awpArr awpBin awpMake awpAppend awpCvX awpStrOf awpBinX awpSlice awpBS awpStore awpAlloc awpCopy awpIndex awpDraw awpIdxX awpFa awpField awpLookup awpUpdate awpDelete awpClear awpRange awpNext awpEntry awpBuild awpClearS awpIdxL awpTree appB awpIdxO eltA treeA
end Go.Proofs.Lx
/- exchequerplain: few pairs, the same pairs. -/
set_option linter.unusedSimpArgs false
set_option linter.unusedVariables false
namespace Go.Proofs.Lx
open Go.Vm
attribute [local irreducible] awpArr awpBin awpMake awpAppend awpCvX awpStrOf awpBinX awpSlice awpBS awpStore awpAlloc awpCopy awpIndex awpDraw awpIdxX awpFa awpField awpLookup awpUpdate awpDelete awpClear awpRange awpNext awpEntry awpBuild awpClearS awpIdxL
def eqKVSpec : Vm.Spec := fun args h Q => ∃ x y : KV, args = [kvAv x, kvAv y] ∧ Q (.v (.bool (x.1 == y.1 && x.2 == y.2))) h
theorem does_eqKV : Does Tryz.prog 142 eqKVSpec := by
  refine does_of_awp (good_cons does_equal good_nil) Tryz.func142 rfl (by decide +kernel) (by decide +kernel) ?_
  rintro args h Q ⟨⟨k, v⟩, ⟨k2, v2⟩, rfl, hq⟩
  refine ⟨by simp [Tryz.f142], ?_⟩
  rw [awpFunc_some (by rfl)]
  simp only [kvAv]
  simp -dsimp only [Vm.E, List.lookup, Nat.reduceAdd, Nat.reduceBEq, Int.reduceBNe, Int.reduceBEq, Bool.true_beq, Bool.false_beq, Vm.S, Nat.reduceLeDiff, fo126_0, of124]
  refine call_one (S := equalSpec) rfl _ GaL.rfl ⟨k, k2, rfl, ?_⟩
  simp -dsimp only [Vm.E, List.lookup, Nat.reduceAdd, Nat.reduceBEq, Int.reduceBNe, Int.reduceBEq, Bool.true_beq, Bool.false_beq]
  cases c1 : (k == k2)
  · simp only [c1] at hq
    simp -dsimp only [Vm.E, List.lookup, Nat.reduceAdd, Nat.reduceBEq, Int.reduceBNe, Int.reduceBEq, Bool.true_beq, Bool.false_beq, Vm.S, Nat.reduceLeDiff, Tryz.results142]
    exact hq
  · simp only [c1] at hq
    simp -dsimp only [Vm.E, List.lookup, Nat.reduceAdd, Nat.reduceBEq, Int.reduceBNe, Int.reduceBEq, Bool.true_beq, Bool.false_beq, Vm.S, Nat.reduceLeDiff, fo126_1, of124]
    refine call_one (S := equalSpec) rfl _ GaL.rfl ⟨v, v2, rfl, ?_⟩
    simp -dsimp only [Vm.E, List.lookup, Nat.reduceAdd, Nat.reduceBEq, Int.reduceBNe, Int.reduceBEq, Bool.true_beq, Bool.false_beq, Tryz.results142]
    exact hq
def eqFSpec : Vm.Spec := fun args h Q => ∃ l l' : List KV, l.length ≤ 9223372036854775807 ∧ args = [.sl 2 (l.map kvAv), .sl 2 (l'.map kvAv), .clo 142 []] ∧ Q (.v (.bool (decide (l = l')))) h
set_option maxHeartbeats 1000000 in
theorem does_eqF : Does Tryz.prog 141 eqFSpec := by
  refine does_of_awp (good_cons does_eqKV good_nil) Tryz.func141 rfl (by decide +kernel) (by decide +kernel) ?_
  rintro args h Q ⟨l, l', hl, rfl, hq⟩
  refine ⟨by simp [Tryz.f141], ?_⟩
  rw [awpFunc_some (by rfl)]
  simp -dsimp only [Vm.E, List.lookup, Nat.reduceAdd, Nat.reduceBEq, Int.reduceBNe, Int.reduceBEq, Bool.true_beq, Bool.false_beq, Tryz.underlying64]
  by_cases hlen : l.length = l'.length
  · have c1 : ((l.length : Int) != l'.length) = false := by simp [hlen]
    simp -dsimp only [Vm.E, List.lookup, Nat.reduceAdd, Nat.reduceBEq, Int.reduceBNe, Int.reduceBEq, Bool.true_beq, Bool.false_beq, c1, Tryz.underlying64]
    refine awp_loop (fun m s h' => ∃ i : Nat, i + m = l.length ∧ h' = h ∧ (∀ j (hj : j < l.length), j < i → l[j] = l'[j]'(by omega)) ∧ s = mk [(1, .sl 2 (l'.map kvAv)), (2, .clo 142 []), (15, .sl 2 (l.map kvAv)), (16, .v (.int .i64 l.length)), (17, .v (.int .i64 i))])
      l.length _ (le_mk _ ?_) ⟨0, by omega, rfl, fun j _ hj => by omega, rfl⟩ ?_
    · simp only [List.forall_mem_cons, List.not_mem_nil, false_imp_iff, implies_true, and_true]
      simp -dsimp only [Vm.E, List.lookup, Nat.reduceAdd, Nat.reduceBEq, Int.reduceBNe, Int.reduceBEq, Bool.true_beq, Bool.false_beq]
      exact ⟨.refl _, .refl _, .refl _, .refl _, .refl _⟩
    · rintro m s h' ⟨i, hi, rfl, hb, rfl⟩
      simp -dsimp only [Vm.E, List.lookup, Nat.reduceAdd, Nat.reduceBEq, Int.reduceBNe, Int.reduceBEq, Bool.true_beq, Bool.false_beq]
      refine cond_intro (fun hcc => ?_) (fun hcc => ?_)
      · have hlt : i < l.length := by have := of_decide_eq_true hcc; omega
        have hlt' : i < l'.length := by omega
        obtain ⟨x, hx⟩ : ∃ x, l[i] = x := ⟨_, rfl⟩
        obtain ⟨y, hy⟩ : ∃ y, l'[i] = y := ⟨_, rfl⟩
        have hw : IntKind.i64.wrap ((i : Int) + 1) = ((i + 1 : Nat) : Int) := by rw [wrap_i64 (by omega) (by omega)]; simp
        simp -dsimp only [Vm.E, List.lookup, Nat.reduceAdd, Nat.reduceBEq, Int.reduceBNe, Int.reduceBEq, Bool.true_beq, Bool.false_beq, es64, as64]
        refine idx_map kvAv l i hlt ?_
        simp only [hx, kvAv]
        simp -dsimp only [Vm.E, List.lookup, Nat.reduceAdd, Nat.reduceBEq, Int.reduceBNe, Int.reduceBEq, Bool.true_beq, Bool.false_beq, Vm.S, Nat.reduceLeDiff, AV.cells, of126, al126, sz126, es64, as64]
        refine idx_map kvAv l' i hlt' ?_
        simp only [hy, kvAv]
        simp -dsimp only [Vm.E, List.lookup, Nat.reduceAdd, Nat.reduceBEq, Int.reduceBNe, Int.reduceBEq, Bool.true_beq, Bool.false_beq, Vm.S, Nat.reduceLeDiff, AV.cells, of126, al126, sz126]
        refine call_one (S := eqKVSpec) rfl _ GaL.rfl ⟨x, y, rfl, ?_⟩
        cases he : (x.1 == y.1 && x.2 == y.2)
        · have hne : ¬ l = l' := fun e => by
            subst e
            rw [← hx, ← hy] at he
            simp at he
          rw [decide_eq_false hne] at hq
          simp -dsimp only [Vm.E, List.lookup, Nat.reduceAdd, Nat.reduceBEq, Int.reduceBNe, Int.reduceBEq, Bool.true_beq, Bool.false_beq, Tryz.results141]
          exact hq
        · have hxy : x = y := by
            simp only [Bool.and_eq_true, beq_iff_eq] at he
            exact Prod.ext he.1 he.2
          simp -dsimp only [Vm.E, List.lookup, Nat.reduceAdd, Nat.reduceBEq, Int.reduceBNe, Int.reduceBEq, Bool.true_beq, Bool.false_beq, hw]
          refine kept_intro ⟨l.length - (i + 1), by omega, _, le_mk [(1, .sl 2 (l'.map kvAv)), (2, .clo 142 []), (15, .sl 2 (l.map kvAv)), (16, .v (.int .i64 l.length)), (17, .v (.int .i64 (i + 1 : Nat)))] ?_, i + 1, by omega, rfl, fun j hj hj2 => ?_, rfl⟩
          · simp only [List.forall_mem_cons, List.not_mem_nil, false_imp_iff, implies_true, and_true]
            simp -dsimp only [Vm.E, List.lookup, Nat.reduceAdd, Nat.reduceBEq, Int.reduceBNe, Int.reduceBEq, Bool.true_beq, Bool.false_beq]
            exact ⟨.refl _, .refl _, .refl _, .refl _, .refl _⟩
          · by_cases hji : j = i
            · subst hji; rw [hx, hy]; exact hxy
            · exact hb j hj (by omega)
      · have hge : ¬ i < l.length := by have := of_decide_eq_false hcc; omega
        have he : l = l' := List.ext_getElem hlen fun j h1 h2 => hb j h1 (by omega)
        rw [decide_eq_true he] at hq
        simp -dsimp only [Vm.E, List.lookup, Nat.reduceAdd, Nat.reduceBEq, Int.reduceBNe, Int.reduceBEq, Bool.true_beq, Bool.false_beq, Tryz.results141]
        exact hq
  · have c1 : ((l.length : Int) != l'.length) = true := by simp; omega
    rw [decide_eq_false fun e => hlen (by rw [e])] at hq
    simp -dsimp only [Vm.E, List.lookup, Nat.reduceAdd, Nat.reduceBEq, Int.reduceBNe, Int.reduceBEq, Bool.true_beq, Bool.false_beq, c1, Tryz.results141]
    exact hq
def pairsSpec : Vm.Spec := fun args h Q => ∃ l l' : List KV, l.length ≤ 9223372036854775807 ∧ args = [.sl 2 (l.map kvAv), .sl 2 (l'.map kvAv)] ∧ Q (.v (.bool (decide (l = l')))) h
theorem does_pairs : Does Tryz.prog 80 pairsSpec := by
  refine does_of_awp (good_cons does_eqF good_nil) Tryz.func80 rfl (by decide +kernel) (by decide +kernel) ?_
  rintro args h Q ⟨l, l', hl, rfl, hq⟩
  refine ⟨by simp [Tryz.f80], ?_⟩
  rw [awpFunc_some (by rfl)]
  simp -dsimp only [Vm.E, List.lookup, Nat.reduceAdd, Nat.reduceBEq, Int.reduceBNe, Int.reduceBEq, Bool.true_beq, Bool.false_beq]
  refine call_one (S := eqFSpec) rfl _ GaL.rfl ⟨l, l', hl, rfl, ?_⟩
  simp -dsimp only [Vm.E, List.lookup, Nat.reduceAdd, Nat.reduceBEq, Int.reduceBNe, Int.reduceBEq, Bool.true_beq, Bool.false_beq, Tryz.results80]
  exact hq
def sameSpec : Vm.Spec := fun args h Q => ∃ (V : VId) (R : RId) (f : Fun), args = [.ptr V.iv 0, .ptr R.iv 0] ∧ Both h V R f ∧ f.n ≤ 536870912 ∧ ∀ h', Both h' V R f → Q (.v (.bool true)) h'
theorem does_same : Does Tryz.prog 27 sameSpec := by
  refine does_of_awp (good_cons does_scan (good_cons does_rScan (good_cons does_pairs good_nil))) Tryz.func27 rfl (by decide +kernel) (by decide +kernel) ?_
  rintro args h Q ⟨V, R, f, rfl, hB, hn, hq⟩
  refine ⟨by simp [Tryz.f27], ?_⟩
  rw [awpFunc_some (by rfl)]
  simp -dsimp only [Vm.E, List.lookup, Nat.reduceAdd, Nat.reduceBEq, Int.reduceBNe, Int.reduceBEq, Bool.true_beq, Bool.false_beq]
  refine call_one (S := scanSpec) rfl _ (.cons (.refl _) (.cons (.nil 1) .nil)) ⟨V, f, [], rfl, by simp, hB.1, hn, fun l h1 hsc hln hV1 hs1 => ?_⟩
  have hB1 := hB.quiet hV1 hs1
  simp -dsimp only [Vm.E, List.lookup, Nat.reduceAdd, Nat.reduceBEq, Int.reduceBNe, Int.reduceBEq, Bool.true_beq, Bool.false_beq]
  refine call_one (S := rScanSpec) rfl _ (.cons (.refl _) (.cons (.nil 1) .nil)) ⟨R, f, [], rfl, by simp, hB1.2.1, hn, fun l' hsc' hln' => ?_⟩
  obtain rfl := hsc.same hsc'
  simp -dsimp only [Vm.E, List.lookup, Nat.reduceAdd, Nat.reduceBEq, Int.reduceBNe, Int.reduceBEq, Bool.true_beq, Bool.false_beq]
  refine call_one (S := pairsSpec) rfl _ GaL.rfl ⟨l, l, by omega, rfl, ?_⟩
  simp -dsimp only [Vm.E, List.lookup, Nat.reduceAdd, Nat.reduceBEq, Int.reduceBNe, Int.reduceBEq, Bool.true_beq, Bool.false_beq, decide_true, Tryz.results27]
  exact hq _ hB1
end Go.Proofs.Lx
/- Years: the reference's list; two lists of numbers. -/
set_option linter.unusedSimpArgs false
set_option linter.unusedVariables false
namespace Go.Proofs.Lx
open Go.Vm
attribute [local irreducible] awpArr awpBin awpMake awpAppend awpCvX awpStrOf awpBinX awpSlice awpBS awpStore awpAlloc awpCopy awpIndex awpDraw awpIdxX awpFa awpField awpLookup awpUpdate awpDelete awpClear awpRange awpNext awpEntry awpBuild awpClearS awpIdxL awpTree
theorem num4_cons (t : UInt8) (r : List UInt8) (i : Nat) (h : 4 * i + 4 ≤ r.length) : getRes (t :: r) ((1 + 4 * i : Nat) : Int) 4 = [.v (.int .i64 (num4 r i)), .v (.int .i64 0)] := by
  unfold getRes num4
  rw [if_neg (by simp [sized]; omega), if_neg (by simp only [List.length_cons]; omega), Int.toNat_natCast]
  rw [show 1 + 4 * i = (4 * i) + 1 by omega, List.drop_succ_cons]
  rfl
theorem does_rSplit : Does Tryz.prog 230 splitSpec := by
  refine does_of_awpO 1 (good_cons does_refGet good_nil) Tryz.func230 rfl (by decide +kernel) (by decide +kernel) ?_
  rintro args h Q ⟨b, hl, rfl, hq0, hq⟩
  refine ⟨by simp [Tryz.f230], ?_⟩
  rw [awpFuncO_some (by rfl)]
  simp -dsimp only [Vm.E, List.lookup, Nat.reduceAdd, Nat.reduceBEq, Int.reduceBNe, Int.reduceBEq, Bool.true_beq, Bool.false_beq, Tryz.underlying124]
  cases b with
  | nil =>
    have c1 : decide (((0 : Nat) : Int) < 1) = true := rfl
    simp -dsimp only [Vm.E, List.lookup, Nat.reduceAdd, Nat.reduceBEq, Int.reduceBNe, Int.reduceBEq, Bool.true_beq, Bool.false_beq, Vm.S, Nat.reduceLeDiff, q230, c1]
    exact hq0 rfl
  | cons t r =>
    have c1 : decide (((r.length + 1 : Nat) : Int) < 1) = false := decide_eq_false (by omega)
    simp -dsimp only [Vm.E, List.lookup, Nat.reduceAdd, Nat.reduceBEq, Int.reduceBNe, Int.reduceBEq, Bool.true_beq, Bool.false_beq, Vm.S, Nat.reduceLeDiff, q230, c1]
    unfold splitOf at hq0 hq
    by_cases d2 : r.length ≤ 28
    · have c2 : decide (((r.length + 1 : Nat) : Int) > 29) = false := decide_eq_false (by omega)
      simp -dsimp only [Vm.E, List.lookup, Nat.reduceAdd, Nat.reduceBEq, Int.reduceBNe, Int.reduceBEq, Bool.true_beq, Bool.false_beq, Vm.S, Nat.reduceLeDiff, q230, c2]
      refine rem_intro (by decide) ?_
      have e2 : ((r.length + 1 : Nat) : Int).tmod 4 = (((r.length + 1) % 4 : Nat) : Int) := by rw [Int.tmod_eq_emod_of_nonneg (by omega)]; omega
      simp only [e2]
      by_cases d1 : r.length % 4 = 0
      · have c3 : ((((r.length + 1) % 4 : Nat) : Int) != 1) = false := by
          have : (r.length + 1) % 4 = 1 := by omega
          rw [this]; rfl
        have hq' := hq t (numsK r (r.length / 4)) (if_pos ⟨d1, d2⟩)
        clear hq hq0
        obtain ⟨k, hk⟩ : ∃ k, r.length = 4 * k := ⟨r.length / 4, by omega⟩
        rw [show r.length / 4 = k by omega] at hq'
        simp -dsimp only [Vm.E, List.lookup, Nat.reduceAdd, Nat.reduceBEq, Int.reduceBNe, Int.reduceBEq, Bool.true_beq, Bool.false_beq, Vm.S, Nat.reduceLeDiff, q230, c3]
        refine awp_loop (fun m s h' => ∃ i : Nat, i + m = k ∧ h' = h ∧ s = mk [(0, .sl 1 ((t :: r).map encB)), (5, .own true 3 1 ((numsK r i).map encI)), (6, .v (.int .i64 (1 + 4 * i : Nat)))])
          k _ (le_mk _ ?_) ⟨0, by omega, rfl, rfl⟩ ?_
        · simp only [List.forall_mem_cons, List.not_mem_nil, false_imp_iff, implies_true, and_true]
          simp -dsimp only [Vm.E, List.lookup, Nat.reduceAdd, Nat.reduceBEq, Int.reduceBNe, Int.reduceBEq, Bool.true_beq, Bool.false_beq]
          exact ⟨.refl _, .nil _ _ _ (by decide), .refl _⟩
        · rintro m s h' ⟨i, hi, rfl, rfl⟩
          simp -dsimp only [Vm.E, List.lookup, Nat.reduceAdd, Nat.reduceBEq, Int.reduceBNe, Int.reduceBEq, Bool.true_beq, Bool.false_beq, Tryz.underlying124]
          refine cond_intro (fun hc => ?_) (fun hc => ?_)
          · have hlt : i < k := by have := of_decide_eq_true hc; simp only [List.length_cons, List.length_map] at this; omega
            simp -dsimp only [Vm.E, List.lookup, Nat.reduceAdd, Nat.reduceBEq, Int.reduceBNe, Int.reduceBEq, Bool.true_beq, Bool.false_beq]
            refine call_one (S := getSpec) rfl _ GaL.rfl ⟨t :: r, ((1 + 4 * i : Nat) : Int), 4, hl, by omega, rfl, ?_⟩
            simp only [num4_cons t r i (by omega)]
            simp -dsimp only [Vm.E, List.lookup, Nat.reduceAdd, Nat.reduceBEq, Int.reduceBNe, Int.reduceBEq, Bool.true_beq, Bool.false_beq, es30]
            refine bs_intro zr3 (by decide) (by decide) rfl rfl (by simp [solid, AV.cells]) ?_
            simp -dsimp only [Vm.E, List.lookup, Nat.reduceAdd, Nat.reduceBEq, Int.reduceBNe, Int.reduceBEq, Bool.true_beq, Bool.false_beq, append_own ei30]
            refine app_sl Tryz.underlying30 (by simp [AV.cells]) (by simp [numsK]; omega) ?_
            simp -dsimp only [Vm.E, List.lookup, Nat.reduceAdd, Nat.reduceBEq, Int.reduceBNe, Int.reduceBEq, Bool.true_beq, Bool.false_beq]
            refine kept_intro ⟨k - (i + 1), by omega, _, le_mk [(0, .sl 1 ((t :: r).map encB)), (5, .own true 3 1 ((numsK r (i + 1)).map encI)), (6, .v (.int .i64 (1 + 4 * (i + 1) : Nat)))] ?_, i + 1, by omega, rfl, rfl⟩
            have ew : IntKind.i64.wrap (((1 + 4 * i : Nat) : Int) + 4) = ((1 + 4 * (i + 1) : Nat) : Int) := by rw [wrap_i64 (by omega) (by omega)]; omega
            have en : (numsK r i).map encI ++ [AV.v (.int .i64 (num4 r i))] = (numsK r (i + 1)).map encI := by simp [numsK, List.range_succ, encI]
            simp only [List.forall_mem_cons, List.not_mem_nil, false_imp_iff, implies_true, and_true]
            simp -dsimp only [Vm.E, List.lookup, Nat.reduceAdd, Nat.reduceBEq, Int.reduceBNe, Int.reduceBEq, Bool.true_beq, Bool.false_beq, ew, en]
            exact ⟨.refl _, .refl _, .refl _⟩
          · have hge : ¬ i < k := by have := of_decide_eq_false hc; simp only [List.length_cons, List.length_map] at this; omega
            obtain rfl : i = k := by omega
            simp -dsimp only [Vm.E, List.lookup, Nat.reduceAdd, Nat.reduceBEq, Int.reduceBNe, Int.reduceBEq, Bool.true_beq, Bool.false_beq, es124, as124]
            refine idx_bytes (t :: r) 0 (by simp) ?_
            simp -dsimp only [Vm.E, List.lookup, Nat.reduceAdd, Nat.reduceBEq, Int.reduceBNe, Int.reduceBEq, Bool.true_beq, Bool.false_beq, of5, Tryz.results230]
            exact hq'
      · have c3 : ((((r.length + 1) % 4 : Nat) : Int) != 1) = true := by simp; omega
        simp -dsimp only [Vm.E, List.lookup, Nat.reduceAdd, Nat.reduceBEq, Int.reduceBNe, Int.reduceBEq, Bool.true_beq, Bool.false_beq, Vm.S, Nat.reduceLeDiff, q230, c3]
        exact hq0 (if_neg (by omega))
    · have c2 : decide (((r.length + 1 : Nat) : Int) > 29) = true := decide_eq_true (by omega)
      simp -dsimp only [Vm.E, List.lookup, Nat.reduceAdd, Nat.reduceBEq, Int.reduceBNe, Int.reduceBEq, Bool.true_beq, Bool.false_beq, Vm.S, Nat.reduceLeDiff, q230, c2]
      exact hq0 (if_neg (by omega))
def ofOf (key : List UInt8) (tag : UInt8) (many : Int) : Option (List Int) := match splitOf key with
  | some (t, l) => if t = tag ∧ (l.length : Int) = many then some l else none
  | none => none
def rOfSpec : Vm.Spec := fun args h Q => ∃ (b : List UInt8) (tag : UInt8) (many : Int), b.length ≤ 4611686018427387904 ∧ args = [.sl 1 (b.map encB), .v (.int .u8 tag.toNat), .v (.int .i64 many)] ∧
  (ofOf b tag many = none → Q (.tup [.v (.slice none 0 0), .v (.bool false)]) h) ∧ (∀ l, ofOf b tag many = some l → Q (.otup 0 true 3 1 (l.map encI) [.any, .v (.bool true)]) h)
theorem does_rOf : Does Tryz.prog 199 rOfSpec := by
  refine does_of_awpO 0 (good_cons does_rSplit good_nil) Tryz.func199 rfl (by decide +kernel) (by decide +kernel) ?_
  rintro args h Q ⟨b, tag, many, hl, rfl, hq0, hq⟩
  refine ⟨by simp [Tryz.f199], ?_⟩
  rw [awpFuncO_some (by rfl)]
  unfold ofOf at hq0 hq
  simp -dsimp only [Vm.E, List.lookup, Nat.reduceAdd, Nat.reduceBEq, Int.reduceBNe, Int.reduceBEq, Bool.true_beq, Bool.false_beq]
  refine call_one (S := splitSpec) rfl _ GaL.rfl ⟨b, hl, rfl, fun hs => ?_, fun t l hs => ?_⟩
  · rw [hs] at hq0
    unfold noKey
    simp -dsimp only [Vm.E, List.lookup, Nat.reduceAdd, Nat.reduceBEq, Int.reduceBNe, Int.reduceBEq, Bool.true_beq, Bool.false_beq, Tryz.results199]
    exact hq0 rfl
  · rw [hs] at hq0 hq
    simp -dsimp only [Vm.E, List.lookup, Nat.reduceAdd, Nat.reduceBEq, Int.reduceBNe, Int.reduceBEq, Bool.true_beq, Bool.false_beq]
    by_cases d1 : t = tag
    · subst d1
      simp -dsimp only [Vm.E, List.lookup, Nat.reduceAdd, Nat.reduceBEq, Int.reduceBNe, Int.reduceBEq, Bool.true_beq, Bool.false_beq, bne_self_eq_false, Tryz.underlying30]
      by_cases d2 : (l.length : Int) = many
      · have c2 : ((l.length : Int) != many) = false := by simp [d2]
        simp -dsimp only [Vm.E, List.lookup, Nat.reduceAdd, Nat.reduceBEq, Int.reduceBNe, Int.reduceBEq, Bool.true_beq, Bool.false_beq, Vm.S, Nat.reduceLeDiff, q199, c2]
        exact hq l (if_pos ⟨rfl, d2⟩)
      · have c2 : ((l.length : Int) != many) = true := by simp [d2]
        simp -dsimp only [Vm.E, List.lookup, Nat.reduceAdd, Nat.reduceBEq, Int.reduceBNe, Int.reduceBEq, Bool.true_beq, Bool.false_beq, Vm.S, Nat.reduceLeDiff, q199, c2]
        exact hq0 (if_neg fun hc => d2 hc.2)
    · have c1 : ((t.toNat : Int) != tag.toNat) = true := by
        simp only [bne_iff_ne, ne_eq]
        exact fun e => d1 (UInt8.toNat_inj.1 (by omega))
      simp -dsimp only [Vm.E, List.lookup, Nat.reduceAdd, Nat.reduceBEq, Int.reduceBNe, Int.reduceBEq, Bool.true_beq, Bool.false_beq, Vm.S, Nat.reduceLeDiff, q199, c1]
      exact hq0 (if_neg fun hc => d1 hc.1)
def eqIntSpec : Vm.Spec := fun args h Q => ∃ l l' : List Int, l.length ≤ 9223372036854775807 ∧ args = [.sl 1 (l.map encI), .sl 1 (l'.map encI)] ∧ Q (.v (.bool (decide (l = l')))) h
theorem does_eqInt : Does Tryz.prog 21 eqIntSpec := by
  refine does_of_awp good_nil Tryz.func21 rfl (by decide +kernel) (by decide +kernel) ?_
  rintro args h Q ⟨l, l', hl, rfl, hq⟩
  refine ⟨by simp [Tryz.f21], ?_⟩
  rw [awpFunc_some (by rfl)]
  simp -dsimp only [Vm.E, List.lookup, Nat.reduceAdd, Nat.reduceBEq, Int.reduceBNe, Int.reduceBEq, Bool.true_beq, Bool.false_beq, Tryz.underlying30]
  by_cases hlen : l.length = l'.length
  · have c1 : ((l.length : Int) != l'.length) = false := by simp [hlen]
    simp -dsimp only [Vm.E, List.lookup, Nat.reduceAdd, Nat.reduceBEq, Int.reduceBNe, Int.reduceBEq, Bool.true_beq, Bool.false_beq, c1, Tryz.underlying30]
    refine awp_loop (fun m s h' => ∃ i : Nat, i + m = l.length ∧ h' = h ∧ (∀ j (hj : j < l.length), j < i → l[j] = l'[j]'(by omega)) ∧ s = mk [(0, .sl 1 (l.map encI)), (1, .sl 1 (l'.map encI)), (12, .v (.int .i64 l.length)), (13, .v (.int .i64 i))])
      l.length _ (le_mk _ ?_) ⟨0, by omega, rfl, fun j _ hj => by omega, rfl⟩ ?_
    · simp only [List.forall_mem_cons, List.not_mem_nil, false_imp_iff, implies_true, and_true]
      simp -dsimp only [Vm.E, List.lookup, Nat.reduceAdd, Nat.reduceBEq, Int.reduceBNe, Int.reduceBEq, Bool.true_beq, Bool.false_beq]
      exact ⟨.refl _, .refl _, .refl _, .refl _⟩
    · rintro m s h' ⟨i, hi, rfl, hb, rfl⟩
      simp -dsimp only [Vm.E, List.lookup, Nat.reduceAdd, Nat.reduceBEq, Int.reduceBNe, Int.reduceBEq, Bool.true_beq, Bool.false_beq]
      refine cond_intro (fun hcc => ?_) (fun hcc => ?_)
      · have hlt : i < l.length := by have := of_decide_eq_true hcc; omega
        have hlt' : i < l'.length := by omega
        obtain ⟨x, hx⟩ : ∃ x, l[i] = x := ⟨_, rfl⟩
        obtain ⟨y, hy⟩ : ∃ y, l'[i] = y := ⟨_, rfl⟩
        have hw : IntKind.i64.wrap ((i : Int) + 1) = ((i + 1 : Nat) : Int) := by rw [wrap_i64 (by omega) (by omega)]; simp
        simp -dsimp only [Vm.E, List.lookup, Nat.reduceAdd, Nat.reduceBEq, Int.reduceBNe, Int.reduceBEq, Bool.true_beq, Bool.false_beq]
        refine draw_cont [] (.take 0 (.take 1 (.take 2 (.take 3 (.take 4 (.take 5 (.take 6 (.take 7 (.take 8 (.done)))))))))) (fun s hx => hx = h' ∧ s 24 = .v (.bool (x != y)) ∧ s 0 = .sl 1 (l.map encI) ∧ s 1 = .sl 1 (l'.map encI) ∧ s 12 = .v (.int .i64 l.length) ∧ s 13 = .v (.int .i64 i)) (by kernel_rfl) (by kernel_rfl) (by kernel_rfl) (by decide) ?_ ?_
        · simp -dsimp only [Vm.E, List.lookup, Nat.reduceAdd, Nat.reduceBEq, Int.reduceBNe, Int.reduceBEq, Bool.true_beq, Bool.false_beq, es30, as30]
          refine idx_ints l i hlt ?_
          simp only [hx]
          simp -dsimp only [Vm.E, List.lookup, Nat.reduceAdd, Nat.reduceBEq, Int.reduceBNe, Int.reduceBEq, Bool.true_beq, Bool.false_beq, of3, es30, as30]
          refine idx_ints l' i hlt' ?_
          simp only [hy]
          simp -dsimp only [Vm.E, List.lookup, Nat.reduceAdd, Nat.reduceBEq, Int.reduceBNe, Int.reduceBEq, Bool.true_beq, Bool.false_beq, of3]
        · rintro s hx2 ⟨rfl, e24, e0, e1, e12, e13⟩
          by_cases he : x = y
          · have c2 : (x != y) = false := by simp [he]
            rw [c2] at e24
            simp -dsimp only [Vm.E, List.lookup, Nat.reduceAdd, Nat.reduceBEq, Int.reduceBNe, Int.reduceBEq, Bool.true_beq, Bool.false_beq, e24, e0, e1, e12, e13, hw]
            refine kept_intro ⟨l.length - (i + 1), by omega, _, le_mk [(0, .sl 1 (l.map encI)), (1, .sl 1 (l'.map encI)), (12, .v (.int .i64 l.length)), (13, .v (.int .i64 (i + 1 : Nat)))] ?_, i + 1, by omega, rfl, fun j hj hj2 => ?_, rfl⟩
            · simp only [List.forall_mem_cons, List.not_mem_nil, false_imp_iff, implies_true, and_true]
              simp -dsimp only [Vm.E, List.lookup, Nat.reduceAdd, Nat.reduceBEq, Int.reduceBNe, Int.reduceBEq, Bool.true_beq, Bool.false_beq, e24, e0, e1, e12, e13]
              exact ⟨.refl _, .refl _, .refl _, .refl _⟩
            · by_cases hji : j = i
              · subst hji; rw [hx, hy]; exact he
              · exact hb j hj (by omega)
          · have c2 : (x != y) = true := by simp [he]
            rw [c2] at e24
            have hne : ¬ l = l' := fun e => he (by subst e; rw [← hx, ← hy])
            rw [decide_eq_false hne] at hq
            simp -dsimp only [Vm.E, List.lookup, Nat.reduceAdd, Nat.reduceBEq, Int.reduceBNe, Int.reduceBEq, Bool.true_beq, Bool.false_beq, e24, e0, e1, e12, e13, Tryz.results21]
            exact hq
      · have hge : ¬ i < l.length := by have := of_decide_eq_false hcc; omega
        have he : l = l' := List.ext_getElem hlen fun j h1 h2 => hb j h1 (by omega)
        rw [decide_eq_true he] at hq
        simp -dsimp only [Vm.E, List.lookup, Nat.reduceAdd, Nat.reduceBEq, Int.reduceBNe, Int.reduceBEq, Bool.true_beq, Bool.false_beq, Tryz.results21]
        exact hq
  · have c1 : ((l.length : Int) != l'.length) = true := by simp; omega
    rw [decide_eq_false fun e => hlen (by rw [e])] at hq
    simp -dsimp only [Vm.E, List.lookup, Nat.reduceAdd, Nat.reduceBEq, Int.reduceBNe, Int.reduceBEq, Bool.true_beq, Bool.false_beq, c1, Tryz.results21]
    exact hq
end Go.Proofs.Lx
/- The reference of nodes: ref19, ref28. -/
set_option linter.unusedSimpArgs false
set_option linter.unusedVariables false
namespace Go.Proofs.Lx
open Go.Vm
attribute [local irreducible] awpArr awpBin awpMake awpAppend awpCvX awpStrOf awpBinX awpSlice awpBS awpStore awpAlloc awpCopy awpIndex awpDraw awpIdxX awpFa awpField awpLookup awpUpdate awpDelete awpClear awpRange awpNext awpEntry awpBuild awpClearS awpIdxL awpTree appB awpIdxO eltA treeA
def rPairSpec : Vm.Spec := fun args h Q => ∃ (tag : UInt8) (kl vl : List Int), kl.length ≤ 4611686018427387904 ∧ vl.length ≤ 4611686018427387904 ∧ (∀ n ∈ vl, I64 n) ∧ args = [.v (.int .u8 tag.toNat), .sl 1 (kl.map encI), .sl 1 (vl.map encI)] ∧
  Q (.agg [.sl 1 ((keyOf tag kl).map encB), .sl 1 ((packOf vl).map encB)]) h
theorem does_rPair : Does Tryz.prog 136 rPairSpec := by
  refine does_of_awp (good_cons does_rKey (good_cons does_rPack good_nil)) Tryz.func136 rfl (by decide +kernel) (by decide +kernel) ?_
  rintro args h Q ⟨tag, kl, vl, hk, hv, hi, rfl, hq⟩
  refine ⟨by simp [Tryz.f136], ?_⟩
  rw [awpFunc_some (by rfl)]
  simp -dsimp only [Vm.E, List.lookup, Nat.reduceAdd, Nat.reduceBEq, Int.reduceBNe, Int.reduceBEq, Bool.true_beq, Bool.false_beq, Vm.S, Nat.reduceLeDiff, q136]
  refine call_one (S := keySpec) rfl _ GaL.rfl ⟨tag, kl, by omega, rfl, ?_⟩
  simp -dsimp only [Vm.E, List.lookup, Nat.reduceAdd, Nat.reduceBEq, Int.reduceBNe, Int.reduceBEq, Bool.true_beq, Bool.false_beq, Vm.S, Nat.reduceLeDiff, q136]
  refine call_one (S := packSpec) rfl _ GaL.rfl ⟨vl, by omega, hi, rfl, ?_⟩
  simp -dsimp only [Vm.E, List.lookup, Nat.reduceAdd, Nat.reduceBEq, Int.reduceBNe, Int.reduceBEq, Bool.true_beq, Bool.false_beq, Vm.S, Nat.reduceLeDiff, q136]
  exact hq
set_option maxRecDepth 20000 in
theorem does_rNode : Does Tryz.prog 75 nodeSpec := by
  refine does_of_awp (good_cons does_rPair good_nil) Tryz.func75 rfl (by decide +kernel) (by decide +kernel) ?_
  rintro args h Q ⟨n, ⟨o1, o2, o3, o4, o5, o6, o7, o8, o9, o10, o11⟩, rfl, hq⟩
  refine ⟨by simp [Tryz.f75], ?_⟩
  rw [awpFunc_some (by rfl)]
  simp only [ndCells]
  cases ha : n.abs
  · simp -dsimp only [Vm.E, List.lookup, Nat.reduceAdd, Nat.reduceBEq, Int.reduceBNe, Int.reduceBEq, Bool.true_beq, Bool.false_beq, Vm.S, Nat.reduceLeDiff, q75]
    refine bs_intro zr3 (by decide) (by decide) rfl rfl (by simp [solid, AV.cells]) ?_
    simp -dsimp only [Vm.E, List.lookup, Nat.reduceAdd, Nat.reduceBEq, Int.reduceBNe, Int.reduceBEq, Bool.true_beq, Bool.false_beq, Vm.S, Nat.reduceLeDiff, q75]
    refine bs_intro zr3 (by decide) (by decide) rfl rfl (by simp [solid, AV.cells]) ?_
    simp -dsimp only [Vm.E, List.lookup, Nat.reduceAdd, Nat.reduceBEq, Int.reduceBNe, Int.reduceBEq, Bool.true_beq, Bool.false_beq, Vm.S, Nat.reduceLeDiff, q75]
    refine call_one (S := rPairSpec) rfl _ GaL.rfl ⟨78, [n.year, n.id], [n.parent, n.fund, n.obj, 0, n.limit, n.pre, n.enc, n.exp, n.lapsed, n.carried], by simp, by simp, ?_, rfl, ?_⟩
    · intro m hm
      simp only [List.mem_cons, List.not_mem_nil, or_false] at hm
      have z0 : I64 0 := by unfold I64; omega
      have z1 : I64 1 := by unfold I64; omega
      rcases hm with rfl | rfl | rfl | rfl | rfl | rfl | rfl | rfl | rfl | rfl <;> assumption
    · simp -dsimp only [Vm.E, List.lookup, Nat.reduceAdd, Nat.reduceBEq, Int.reduceBNe, Int.reduceBEq, Bool.true_beq, Bool.false_beq, Vm.S, Nat.reduceLeDiff, q75]
      have e : packOf (ndVal n) = packOf [n.parent, n.fund, n.obj, 0, n.limit, n.pre, n.enc, n.exp, n.lapsed, n.carried] := by unfold ndVal; rw [ha]; rfl
      rw [e] at hq
      exact hq
  · simp -dsimp only [Vm.E, List.lookup, Nat.reduceAdd, Nat.reduceBEq, Int.reduceBNe, Int.reduceBEq, Bool.true_beq, Bool.false_beq, Vm.S, Nat.reduceLeDiff, q75]
    refine bs_intro zr3 (by decide) (by decide) rfl rfl (by simp [solid, AV.cells]) ?_
    simp -dsimp only [Vm.E, List.lookup, Nat.reduceAdd, Nat.reduceBEq, Int.reduceBNe, Int.reduceBEq, Bool.true_beq, Bool.false_beq, Vm.S, Nat.reduceLeDiff, q75]
    refine bs_intro zr3 (by decide) (by decide) rfl rfl (by simp [solid, AV.cells]) ?_
    simp -dsimp only [Vm.E, List.lookup, Nat.reduceAdd, Nat.reduceBEq, Int.reduceBNe, Int.reduceBEq, Bool.true_beq, Bool.false_beq, Vm.S, Nat.reduceLeDiff, q75]
    refine call_one (S := rPairSpec) rfl _ GaL.rfl ⟨78, [n.year, n.id], [n.parent, n.fund, n.obj, 1, n.limit, n.pre, n.enc, n.exp, n.lapsed, n.carried], by simp, by simp, ?_, rfl, ?_⟩
    · intro m hm
      simp only [List.mem_cons, List.not_mem_nil, or_false] at hm
      have z0 : I64 0 := by unfold I64; omega
      have z1 : I64 1 := by unfold I64; omega
      rcases hm with rfl | rfl | rfl | rfl | rfl | rfl | rfl | rfl | rfl | rfl <;> assumption
    · simp -dsimp only [Vm.E, List.lookup, Nat.reduceAdd, Nat.reduceBEq, Int.reduceBNe, Int.reduceBEq, Bool.true_beq, Bool.false_beq, Vm.S, Nat.reduceLeDiff, q75]
      have e : packOf (ndVal n) = packOf [n.parent, n.fund, n.obj, 1, n.limit, n.pre, n.enc, n.exp, n.lapsed, n.carried] := by unfold ndVal; rw [ha]; rfl
      rw [e] at hq
      exact hq
/-- A pair's numbers, or not. -/
def bothOf (tag : UInt8) (k v : Nat) (key val : List UInt8) : Option (List Int × List Int) :=
  match ofOf key tag k with
  | some l => if val.length = 8 * v then some (l, numsOf val v) else none
  | none => none
theorem both_nums (tag : UInt8) (k v : Nat) (key val : List UInt8) : numsPair tag k v key val = (bothOf tag k v key val).map fun p => p.1 ++ p.2 := by
  unfold numsPair bothOf ofOf
  cases splitOf key with
  | none => rfl
  | some p =>
    obtain ⟨t, l⟩ := p
    simp only
    by_cases h1 : t = tag
    · by_cases h2 : l.length = k
      · have h2' : (l.length : Int) = k := by omega
        by_cases h3 : val.length = 8 * v
        · simp [h1, h2, h3]
        · simp [h1, h2, h3]
      · have h2' : ¬ (l.length : Int) = k := by omega
        simp [h1, h2, h2']
    · simp [h1]
def rBothSpec : Vm.Spec := fun args h Q => ∃ (tag : UInt8) (k v : Nat) (key val : List UInt8), v ≤ 15 ∧ k ≤ 15 ∧ key.length ≤ 1073741824 ∧ val.length ≤ 1073741824 ∧ args = [.agg [.sl 1 (key.map encB), .sl 1 (val.map encB)], .v (.int .u8 tag.toNat), .v (.int .i64 k), .v (.int .i64 v)] ∧
  (∀ p, bothOf tag k v key val = some p → Q (.tup [.sl 1 (p.1.map encI), .sl 1 (p.2.map encI), .v (.bool true)]) h) ∧ (bothOf tag k v key val = none → ∀ a b : List Int, Q (.tup [.sl 1 (a.map encI), .sl 1 (b.map encI), .v (.bool false)]) h)
def isI (x : AV) (l : List Int) : Prop := x = .sl 1 (l.map encI) ∨ (l = [] ∧ x = .v (.slice none 0 0))
theorem isI.ga {x : AV} {l : List Int} (h : isI x l) : Ga x (.sl 1 (l.map encI)) := by
  rcases h with rfl | ⟨rfl, rfl⟩
  · exact .refl _
  · exact .nil 1
def rBoth0 : Vm.Spec := fun args h Q => ∃ (tag : UInt8) (k v : Nat) (key val : List UInt8), v ≤ 15 ∧ k ≤ 15 ∧ key.length ≤ 1073741824 ∧ val.length ≤ 1073741824 ∧ args = [.agg [.sl 1 (key.map encB), .sl 1 (val.map encB)], .v (.int .u8 tag.toNat), .v (.int .i64 k), .v (.int .i64 v)] ∧
  (∀ p, bothOf tag k v key val = some p → Q (.tup [.sl 1 (p.1.map encI), .sl 1 (p.2.map encI), .v (.bool true)]) h) ∧ (bothOf tag k v key val = none → ∀ (a b : List Int) (x y : AV), isI x a → isI y b → Q (.tup [x, y, .v (.bool false)]) h)
set_option maxRecDepth 20000 in
theorem does_rBoth0 : Does Tryz.prog 164 rBoth0 := by
  refine does_of_awp (good_cons does_rOf (good_cons does_rUnpack good_nil)) Tryz.func164 rfl (by decide +kernel) (by decide +kernel) ?_
  rintro args h Q ⟨tag, k, v, key, val, hv, hk, hkl, hvl, rfl, hq1, hq2⟩
  refine ⟨by simp [Tryz.f164], ?_⟩
  rw [awpFunc_some (by rfl)]
  unfold bothOf at hq1 hq2
  simp -dsimp only [Vm.E, List.lookup, Nat.reduceAdd, Nat.reduceBEq, Int.reduceBNe, Int.reduceBEq, Bool.true_beq, Bool.false_beq, Vm.S, Nat.reduceLeDiff, q164]
  refine call_one (S := rOfSpec) rfl _ GaL.rfl ⟨key, tag, k, by omega, rfl, fun hs => ?_, fun l hs => ?_⟩
  · rw [hs] at hq2
    simp -dsimp only [Vm.E, List.lookup, Nat.reduceAdd, Nat.reduceBEq, Int.reduceBNe, Int.reduceBEq, Bool.true_beq, Bool.false_beq, Vm.S, Nat.reduceLeDiff, q164]
    refine call_one (S := unpackSpec) rfl _ GaL.rfl ⟨val, v, by omega, by unfold I64; omega, rfl, ?_⟩
    unfold unpackRes
    rw [if_neg (by omega)]
    by_cases h3 : val.length = 8 * v
    · rw [if_neg (by omega)]
      simp -dsimp only [Vm.E, List.lookup, Nat.reduceAdd, Nat.reduceBEq, Int.reduceBNe, Int.reduceBEq, Bool.true_beq, Bool.false_beq, Vm.S, Nat.reduceLeDiff, q164]
      exact hq2 rfl [] (numsOf val (v : Int).toNat) _ _ (.inr ⟨rfl, rfl⟩) (.inl rfl)
    · rw [if_pos (by omega)]
      simp -dsimp only [Vm.E, List.lookup, Nat.reduceAdd, Nat.reduceBEq, Int.reduceBNe, Int.reduceBEq, Bool.true_beq, Bool.false_beq, Vm.S, Nat.reduceLeDiff, q164]
      exact hq2 rfl [] [] _ _ (.inr ⟨rfl, rfl⟩) (.inr ⟨rfl, rfl⟩)
  · rw [hs] at hq1 hq2
    simp -dsimp only [Vm.E, List.lookup, Nat.reduceAdd, Nat.reduceBEq, Int.reduceBNe, Int.reduceBEq, Bool.true_beq, Bool.false_beq, Vm.S, Nat.reduceLeDiff, q164]
    refine call_one (S := unpackSpec) rfl _ GaL.rfl ⟨val, v, by omega, by unfold I64; omega, rfl, ?_⟩
    unfold unpackRes
    rw [if_neg (by omega)]
    by_cases h3 : val.length = 8 * v
    · rw [if_neg (by omega)]
      simp only [if_pos h3] at hq1
      simp -dsimp only [Vm.E, List.lookup, Nat.reduceAdd, Nat.reduceBEq, Int.reduceBNe, Int.reduceBEq, Bool.true_beq, Bool.false_beq, Vm.S, Nat.reduceLeDiff, q164]
      have := hq1 _ rfl
      simpa using this
    · rw [if_pos (by omega)]
      simp only [if_neg h3] at hq2
      simp -dsimp only [Vm.E, List.lookup, Nat.reduceAdd, Nat.reduceBEq, Int.reduceBNe, Int.reduceBEq, Bool.true_beq, Bool.false_beq, Vm.S, Nat.reduceLeDiff, q164]
      exact hq2 trivial l [] _ _ (.inl rfl) (.inr ⟨rfl, rfl⟩)
theorem does_rBoth : Does Tryz.prog 164 rBothSpec := by
  refine (Does.weak does_rBoth0).imp ?_
  rintro args h Q ⟨tag, k, v, key, val, hv, hk, hkl, hvl, rfl, hq1, hq2⟩
  exact ⟨tag, k, v, key, val, hv, hk, hkl, hvl, rfl, fun p hp => ⟨_, .refl _, hq1 p hp⟩, fun hn a b x y hx hy => ⟨_, .tup (.cons hx.ga (.cons hy.ga GaL.rfl)), hq2 hn a b⟩⟩
theorem both_length {tag : UInt8} {k v : Nat} {key val : List UInt8} {p : List Int × List Int} (h : bothOf tag k v key val = some p) : p.1.length = k ∧ p.2.length = v := by
  unfold bothOf ofOf at h
  split at h
  · rename_i l hl
    split at hl
    · split at hl
      · rename_i hc
        cases hl
        split at h
        · cases h; exact ⟨by show l.length = k; omega, by simp [numsOf]⟩
        · cases h
      · cases hl
    · cases hl
  · cases h
def rNodeOfSpec : Vm.Spec := fun args h Q => ∃ key val : List UInt8, key.length ≤ 1073741824 ∧ val.length ≤ 1073741824 ∧ args = [.agg [.sl 1 (key.map encB), .sl 1 (val.map encB)]] ∧
  (∀ n, nodeOf key val = some n → Q (.tup [.agg (ndCells n), .v (.bool true)]) h) ∧ (nodeOf key val = none → Q (.tup [.agg (ndCells .zero), .v (.bool false)]) h)
set_option maxRecDepth 20000 in
theorem does_rNodeOf : Does Tryz.prog 139 rNodeOfSpec := by
  refine does_of_awp (good_cons does_rBoth good_nil) Tryz.func139 rfl (by decide +kernel) (by decide +kernel) ?_
  rintro args h Q ⟨key, val, hk, hv, rfl, hq1, hq2⟩
  refine ⟨by simp [Tryz.f139], ?_⟩
  rw [awpFunc_some (by rfl)]
  unfold nodeOf at hq1 hq2
  rw [both_nums] at hq1 hq2
  simp only [ndCells, Nd.zero] at hq2
  simp -dsimp only [Vm.E, List.lookup, Nat.reduceAdd, Nat.reduceBEq, Int.reduceBNe, Int.reduceBEq, Bool.true_beq, Bool.false_beq, Vm.S, Nat.reduceLeDiff, q139]
  refine call_one (S := rBothSpec) rfl _ GaL.rfl ⟨78, 2, 10, key, val, by omega, by omega, hk, hv, rfl, fun p hp => ?_, fun hp a b => ?_⟩
  · have hlen := both_length hp
    obtain ⟨kl, vl⟩ := p
    obtain ⟨hl1, hl2⟩ := hlen
    match kl, hl1 with
    | [k0, k1], _ =>
    match vl, hl2 with
    | [b0, b1, b2, b3, b4, b5, b6, b7, b8, b9], _ =>
    rw [hp] at hq1
    have hq1' := hq1 _ rfl
    clear hq1 hq2 hp
    simp -dsimp only [Vm.E, List.lookup, Nat.reduceAdd, Nat.reduceBEq, Int.reduceBNe, Int.reduceBEq, Bool.true_beq, Bool.false_beq, Vm.S, Nat.reduceLeDiff, q139]
    refine draw_cont [] (.take 0 (.take 1 (.take 2 (.take 3 (.take 4 (.take 5 (.take 6 (.take 7 (.take 8 (.take 9 (.take 10 (.take 11 (.take 12 (.take 13 (.take 14 (.take 15 (.take 16 (.take 17 (.take 18 (.take 19 (.take 20 (.take 21 (.take 22 (.take 23 (.take 24 (.take 25 (.take 26 (.take 27 (.take 28 (.take 29 (.take 30 (.take 31 (.take 32 (.take 33 (.take 34 (.take 35 (.take 36 (.alt 37 (.alt 38 (.alt 39 (.done) .stop) .stop) .stop)))))))))))))))))))))))))))))))))))))) (fun s h2 => h2 = h ∧ s 2 = .box (ndCells ⟨k0, k1, b0, b1, b2, b3 != 0, b4, b5, b6, b7, b8, b9⟩) ∧ s 3 = .v (.bool true)) (by kernel_rfl) (by kernel_rfl) (by kernel_rfl) (by decide) ?_ ?_
    · simp -dsimp only [Vm.E, List.lookup, Nat.reduceAdd, Nat.reduceBEq, Int.reduceBNe, Int.reduceBEq, Bool.true_beq, Bool.false_beq, Vm.S, Nat.reduceLeDiff, q139, idx_lit, idxE_some, Int.reduceToNat, Int.reduceLE, decide_true, eq_self, encI]
      repeat' first | rfl | exact True.intro | refine And.intro ?_ ?_
    · rintro s h2 ⟨rfl, e2, e3⟩
      simp only [ndCells] at e2
      simp -dsimp only [Vm.E, List.lookup, Nat.reduceAdd, Nat.reduceBEq, Int.reduceBNe, Int.reduceBEq, Bool.true_beq, Bool.false_beq, Vm.S, Nat.reduceLeDiff, q139, e2, e3]
      exact hq1'
  · rw [hp] at hq2
    simp -dsimp only [Vm.E, List.lookup, Nat.reduceAdd, Nat.reduceBEq, Int.reduceBNe, Int.reduceBEq, Bool.true_beq, Bool.false_beq, Vm.S, Nat.reduceLeDiff, q139]
    exact hq2 rfl
def rtPutSpec : Vm.Spec := fun args h Q => ∃ (R : RId) (f : Fun) (n : Nd), args = [.ptr R.iv 0, .agg (ndCells n)] ∧ n.ok ∧ isRef h R f ∧ f.n ≤ 536870912 ∧ ∀ h', isRef h' R (upd f (ndK n) (some (ndV n))) → Same h h' (rFoot R) → Q (.v (.int .i64 0)) h'
theorem does_rtPut : Does Tryz.prog 18 rtPutSpec := by
  refine does_of_awp (good_cons does_rNode (good_cons does_rPut good_nil)) Tryz.func18 rfl (by decide +kernel) (by decide +kernel) ?_
  rintro args h Q ⟨R, f, n, rfl, hn, hR, hfn, hq⟩
  refine ⟨by simp [Tryz.f18], ?_⟩
  rw [awpFunc_some (by rfl)]
  simp only [ndCells]
  simp -dsimp only [Vm.E, List.lookup, Nat.reduceAdd, Nat.reduceBEq, Int.reduceBNe, Int.reduceBEq, Bool.true_beq, Bool.false_beq, Vm.S, Nat.reduceLeDiff, q18]
  refine call_one (S := nodeSpec) rfl _ GaL.rfl ⟨n, hn, rfl, ?_⟩
  simp -dsimp only [Vm.E, List.lookup, Nat.reduceAdd, Nat.reduceBEq, Int.reduceBNe, Int.reduceBEq, Bool.true_beq, Bool.false_beq, Vm.S, Nat.reduceLeDiff, q18]
  refine call_one (S := rPutSpec) rfl _ GaL.rfl ⟨R, f, ndK n, ndV n, rfl, hR, hfn, fun _ h' g1 g2 => ?_, fun hc => by rw [right_nd] at hc; cases hc⟩
  simp -dsimp only [Vm.E, List.lookup, Nat.reduceAdd, Nat.reduceBEq, Int.reduceBNe, Int.reduceBEq, Bool.true_beq, Bool.false_beq, Vm.S, Nat.reduceLeDiff, q18]
  exact hq h' g1 g2
theorem nodeOf_nil (key : List UInt8) : nodeOf key [] = none := by
  unfold nodeOf numsPair
  cases splitOf key with
  | none => rfl
  | some p => simp
def rtGetSpec : Vm.Spec := fun args h Q => ∃ (R : RId) (f : Fun) (year id : Int), args = [.ptr R.iv 0, .v (.int .i64 year), .v (.int .i64 id)] ∧ isRef h R f ∧ f.n ≤ 536870912 ∧
  (∀ n, nodeAt f year id = some n → Q (.tup [.agg (ndCells n), .v (.bool true)]) h) ∧ (nodeAt f year id = none → Q (.tup [.agg (ndCells .zero), .v (.bool false)]) h)
set_option maxRecDepth 20000 in
theorem does_rtGet : Does Tryz.prog 140 rtGetSpec := by
  refine does_of_awp (good_cons does_rKey (good_cons does_rGet (good_cons does_rNodeOf good_nil))) Tryz.func140 rfl (by decide +kernel) (by decide +kernel) ?_
  rintro args h Q ⟨R, f, year, id, rfl, hR, hfn, hq1, hq2⟩
  refine ⟨by simp [Tryz.f140], ?_⟩
  rw [awpFunc_some (by rfl)]
  unfold nodeAt at hq1 hq2
  simp only [ndCells, Nd.zero] at hq2
  simp -dsimp only [Vm.E, List.lookup, Nat.reduceAdd, Nat.reduceBEq, Int.reduceBNe, Int.reduceBEq, Bool.true_beq, Bool.false_beq, Vm.S, Nat.reduceLeDiff, q140]
  refine bs_intro zr3 (by decide) (by decide) rfl rfl (by simp [solid, AV.cells]) ?_
  simp -dsimp only [Vm.E, List.lookup, Nat.reduceAdd, Nat.reduceBEq, Int.reduceBNe, Int.reduceBEq, Bool.true_beq, Bool.false_beq, Vm.S, Nat.reduceLeDiff, q140]
  refine call_one (S := keySpec) rfl _ GaL.rfl ⟨78, [year, id], by simp, rfl, ?_⟩
  have hk := key2_length 78 year id
  generalize keyOf 78 [year, id] = key at hk hq1 hq2 ⊢
  simp -dsimp only [Vm.E, List.lookup, Nat.reduceAdd, Nat.reduceBEq, Int.reduceBNe, Int.reduceBEq, Bool.true_beq, Bool.false_beq, Vm.S, Nat.reduceLeDiff, q140]
  refine call_one (S := rGetSpec) rfl _ GaL.rfl ⟨R, f, key, rfl, hR, hfn, fun val hf => ?_, fun hf => ?_⟩
  · have hvl := (hR.len hf).2
    rw [hf] at hq1 hq2
    simp -dsimp only [Vm.E, List.lookup, Nat.reduceAdd, Nat.reduceBEq, Int.reduceBNe, Int.reduceBEq, Bool.true_beq, Bool.false_beq, Vm.S, Nat.reduceLeDiff, q140]
    refine call_one (S := rNodeOfSpec) rfl _ GaL.rfl ⟨key, val, by omega, by omega, rfl, fun n hn => ?_, fun hn => ?_⟩
    · have hq1 : ∀ m, (if n.year = year ∧ n.id = id then some n else none) = some m → Q (.tup [.agg (ndCells m), .v (.bool true)]) h := fun m hm => hq1 m (by simp only [hn]; exact hm)
      have hq2 := fun hm : (if n.year = year ∧ n.id = id then some n else none) = none => hq2 (by simp only [hn]; exact hm)
      simp only [ndCells] at hq1
      simp only [ndCells]
      simp -dsimp only [Vm.E, List.lookup, Nat.reduceAdd, Nat.reduceBEq, Int.reduceBNe, Int.reduceBEq, Bool.true_beq, Bool.false_beq, Vm.S, Nat.reduceLeDiff, q140]
      cases c1 : (n.year != year)
      · have d1 : n.year = year := by simpa using c1
        simp -dsimp only [Vm.E, List.lookup, Nat.reduceAdd, Nat.reduceBEq, Int.reduceBNe, Int.reduceBEq, Bool.true_beq, Bool.false_beq, Vm.S, Nat.reduceLeDiff, q140]
        cases c2 : (n.id != id)
        · have d2 : n.id = id := by simpa using c2
          simp -dsimp only [Vm.E, List.lookup, Nat.reduceAdd, Nat.reduceBEq, Int.reduceBNe, Int.reduceBEq, Bool.true_beq, Bool.false_beq, Vm.S, Nat.reduceLeDiff, q140]
          exact hq1 n (if_pos ⟨d1, d2⟩)
        · have d2 : ¬ n.id = id := by simpa using c2
          simp -dsimp only [Vm.E, List.lookup, Nat.reduceAdd, Nat.reduceBEq, Int.reduceBNe, Int.reduceBEq, Bool.true_beq, Bool.false_beq, Vm.S, Nat.reduceLeDiff, q140]
          exact hq2 (if_neg fun hc => d2 hc.2)
      · have d1 : ¬ n.year = year := by simpa using c1
        simp -dsimp only [Vm.E, List.lookup, Nat.reduceAdd, Nat.reduceBEq, Int.reduceBNe, Int.reduceBEq, Bool.true_beq, Bool.false_beq, Vm.S, Nat.reduceLeDiff, q140]
        exact hq2 (if_neg fun hc => d1 hc.1)
    · have hq2 := hq2 (by simp only [hn])
      simp only [ndCells, Nd.zero]
      simp -dsimp only [Vm.E, List.lookup, Nat.reduceAdd, Nat.reduceBEq, Int.reduceBNe, Int.reduceBEq, Bool.true_beq, Bool.false_beq, Vm.S, Nat.reduceLeDiff, q140]
      exact hq2
  · rw [hf] at hq2
    simp -dsimp only [Vm.E, List.lookup, Nat.reduceAdd, Nat.reduceBEq, Int.reduceBNe, Int.reduceBEq, Bool.true_beq, Bool.false_beq, Vm.S, Nat.reduceLeDiff, q140]
    refine call_one (S := rNodeOfSpec) rfl _ GaL.rfl ⟨key, [], by omega, by simp, rfl, fun n hn => (by rw [nodeOf_nil] at hn; cases hn), fun hn => ?_⟩
    simp only [ndCells, Nd.zero]
    simp -dsimp only [Vm.E, List.lookup, Nat.reduceAdd, Nat.reduceBEq, Int.reduceBNe, Int.reduceBEq, Bool.true_beq, Bool.false_beq, Vm.S, Nat.reduceLeDiff, q140]
    exact hq2 rfl
def rtAllSpec : Vm.Spec := fun args h Q => ∃ (R : RId) (f : Fun) (year : Int), args = [.ptr R.iv 0, .v (.int .i64 year)] ∧ isRef h R f ∧ f.n ≤ 536870912 ∧
  ∀ l, ScanIs f (keyOf 78 [year]) l → l.length ≤ f.n → Q (.own true 27 12 ((allN year l).map ndAv)) h
set_option maxRecDepth 20000 in
theorem does_rtAll : Does Tryz.prog 77 rtAllSpec := by
  refine does_of_awp (good_cons does_rKey (good_cons does_rScan (good_cons does_rNodeOf good_nil))) Tryz.func77 rfl (by decide +kernel) (by decide +kernel) ?_
  rintro args h Q ⟨R, f, year, rfl, hR, hfn, hq⟩
  refine ⟨by simp [Tryz.f77], ?_⟩
  rw [awpFunc_some (by rfl)]
  simp -dsimp only [Vm.E, List.lookup, Nat.reduceAdd, Nat.reduceBEq, Int.reduceBNe, Int.reduceBEq, Bool.true_beq, Bool.false_beq, Vm.S, Nat.reduceLeDiff, q77]
  refine bs_intro zr3 (by decide) (by decide) rfl rfl (by simp [solid, AV.cells]) ?_
  simp -dsimp only [Vm.E, List.lookup, Nat.reduceAdd, Nat.reduceBEq, Int.reduceBNe, Int.reduceBEq, Bool.true_beq, Bool.false_beq, Vm.S, Nat.reduceLeDiff, q77]
  refine call_one (S := keySpec) rfl _ GaL.rfl ⟨78, [year], by simp, rfl, ?_⟩
  simp -dsimp only [Vm.E, List.lookup, Nat.reduceAdd, Nat.reduceBEq, Int.reduceBNe, Int.reduceBEq, Bool.true_beq, Bool.false_beq, Vm.S, Nat.reduceLeDiff, q77]
  refine call_one (S := rScanSpec) rfl _ GaL.rfl ⟨R, f, keyOf 78 [year], rfl, by rw [key1_length]; decide, hR, hfn, fun l hsc hln => ?_⟩
  simp -dsimp only [Vm.E, List.lookup, Nat.reduceAdd, Nat.reduceBEq, Int.reduceBNe, Int.reduceBEq, Bool.true_beq, Bool.false_beq, Vm.S, Nat.reduceLeDiff, q77]
  refine awp_loop (fun m s h' => ∃ i : Nat, i + m = l.length ∧ h' = h ∧ s = mk [(1, .v (.int .i64 year)), (5, .own true 27 12 ((allN year (l.take (i))).map ndAv)), (6, .own true 126 2 (l.map kvAv)), (7, .v (.int .i64 (i : Nat)))])
    l.length _ (le_mk _ ?_) ⟨0, by omega, rfl, rfl⟩ ?_
  · simp only [List.forall_mem_cons, List.not_mem_nil, false_imp_iff, implies_true, and_true]
    try simp -dsimp only [Vm.E, List.lookup, Nat.reduceAdd, Nat.reduceBEq, Int.reduceBNe, Int.reduceBEq, Bool.true_beq, Bool.false_beq, Vm.S, Nat.reduceLeDiff, q77]
    repeat' first | exact Fg.refl _ | exact Fg.nil _ _ _ (by decide) | refine And.intro ?_ ?_
  · rintro m s h' ⟨i, hi, rfl, rfl⟩
    simp -dsimp only [Vm.E, List.lookup, Nat.reduceAdd, Nat.reduceBEq, Int.reduceBNe, Int.reduceBEq, Bool.true_beq, Bool.false_beq, Vm.S, Nat.reduceLeDiff, q77, List.length_map]
    refine cond_intro (fun hcc => ?_) (fun hcc => ?_)
    · have hlt : i < l.length := by have := of_decide_eq_true hcc; omega
      have hw : IntKind.i64.wrap ((i : Int) + 1) = ((i + 1 : Nat) : Int) := by rw [wrap_i64 (by omega) (by omega)]; simp
      have hget : (l.map kvAv)[i]? = some (kvAv l[i]) := by simp [hlt]
      have est := filterMap_step (inYear year) l i hlt
      have hal : (allN year (l.take i)).length ≤ i := filterMap_le (inYear year) l i
      have hin := ((hsc.2 l[i].1 l[i].2).1 (List.getElem_mem hlt)).1
      have hkl : l[i].1.length ≤ 32 := (hR.len hin).1
      have hvl : l[i].2.length ≤ 120 := (hR.len hin).2
      clear hin
      generalize l[i] = p at hget est hkl hvl
      obtain ⟨k, v⟩ := p
      simp only at hkl hvl
      have e0 : inYear year (k, v) = match nodeOf k v with | some n => if n.year = year then some n else none | none => none := rfl
      simp -dsimp only [Vm.E, List.lookup, Nat.reduceAdd, Nat.reduceBEq, Int.reduceBNe, Int.reduceBEq, Bool.true_beq, Bool.false_beq, Vm.S, Nat.reduceLeDiff, q77]
      refine idxO_intro (by omega) (by simp; omega) ?_
      simp -dsimp only [Vm.E, List.lookup, Nat.reduceAdd, Nat.reduceBEq, Int.reduceBNe, Int.reduceBEq, Bool.true_beq, Bool.false_beq, Vm.S, Nat.reduceLeDiff, q77, Int.toNat_natCast]
      refine eltA_intro hget ?_
      simp only [kvAv]
      simp -dsimp only [Vm.E, List.lookup, Nat.reduceAdd, Nat.reduceBEq, Int.reduceBNe, Int.reduceBEq, Bool.true_beq, Bool.false_beq, Vm.S, Nat.reduceLeDiff, q77, AV.cells, List.drop_zero]
      refine call_one (S := rNodeOfSpec) rfl _ GaL.rfl ⟨k, v, by omega, by omega, rfl, fun n hno => ?_, fun hno => ?_⟩
      · rw [hno] at e0
        simp only at e0
        simp only [ndCells]
        simp -dsimp only [Vm.E, List.lookup, Nat.reduceAdd, Nat.reduceBEq, Int.reduceBNe, Int.reduceBEq, Bool.true_beq, Bool.false_beq, Vm.S, Nat.reduceLeDiff, q77]
        cases c1 : (n.year == year)
        · have d1 : ¬ n.year = year := by simpa using c1
          rw [if_neg d1] at e0
          rw [e0] at est
          simp -dsimp only [Vm.E, List.lookup, Nat.reduceAdd, Nat.reduceBEq, Int.reduceBNe, Int.reduceBEq, Bool.true_beq, Bool.false_beq, Vm.S, Nat.reduceLeDiff, q77]
          refine kept_intro ⟨l.length - (i + 1), by omega, _, le_mk [(1, .v (.int .i64 year)), (5, .own true 27 12 ((allN year (l.take (i + 1))).map ndAv)), (6, .own true 126 2 (l.map kvAv)), (7, .v (.int .i64 (i + 1 : Nat)))] ?_, i + 1, by omega, rfl, rfl⟩
          simp only [List.forall_mem_cons, List.not_mem_nil, false_imp_iff, implies_true, and_true, hw, est, Option.toList, List.append_nil]
          try simp -dsimp only [Vm.E, List.lookup, Nat.reduceAdd, Nat.reduceBEq, Int.reduceBNe, Int.reduceBEq, Bool.true_beq, Bool.false_beq, Vm.S, Nat.reduceLeDiff, q77, hw, est, Option.toList, List.append_nil]
          repeat' first | exact Fg.refl _ | exact Fg.nil _ _ _ (by decide) | refine And.intro ?_ ?_
        · have d1 : n.year = year := by simpa using c1
          rw [if_pos d1] at e0
          rw [e0] at est
          simp -dsimp only [Vm.E, List.lookup, Nat.reduceAdd, Nat.reduceBEq, Int.reduceBNe, Int.reduceBEq, Bool.true_beq, Bool.false_beq, Vm.S, Nat.reduceLeDiff, q77]
          refine bs_intro zr27 (by decide) (by decide) rfl rfl (by simp [solid, AV.cells]) ?_
          simp -dsimp only [Vm.E, List.lookup, Nat.reduceAdd, Nat.reduceBEq, Int.reduceBNe, Int.reduceBEq, Bool.true_beq, Bool.false_beq, Vm.S, Nat.reduceLeDiff, q77]
          refine app_sl Tryz.underlying22 (by simp [AV.cells]) (by simp only [List.length_map, List.length_cons, List.length_nil]; omega) ?_
          simp -dsimp only [Vm.E, List.lookup, Nat.reduceAdd, Nat.reduceBEq, Int.reduceBNe, Int.reduceBEq, Bool.true_beq, Bool.false_beq, Vm.S, Nat.reduceLeDiff, q77]
          refine kept_intro ⟨l.length - (i + 1), by omega, _, le_mk [(1, .v (.int .i64 year)), (5, .own true 27 12 ((allN year (l.take (i + 1))).map ndAv)), (6, .own true 126 2 (l.map kvAv)), (7, .v (.int .i64 (i + 1 : Nat)))] ?_, i + 1, by omega, rfl, rfl⟩
          simp only [List.forall_mem_cons, List.not_mem_nil, false_imp_iff, implies_true, and_true, hw, est, Option.toList, List.map_append, List.map_cons, List.map_nil, ndAv, ndCells]
          try simp -dsimp only [Vm.E, List.lookup, Nat.reduceAdd, Nat.reduceBEq, Int.reduceBNe, Int.reduceBEq, Bool.true_beq, Bool.false_beq, Vm.S, Nat.reduceLeDiff, q77, hw, est, Option.toList, List.map_append, List.map_cons, List.map_nil, ndAv, ndCells]
          repeat' first | exact Fg.refl _ | exact Fg.nil _ _ _ (by decide) | refine And.intro ?_ ?_
      · rw [hno] at e0
        simp only at e0
        rw [e0] at est
        simp only [ndCells]
        simp -dsimp only [Vm.E, List.lookup, Nat.reduceAdd, Nat.reduceBEq, Int.reduceBNe, Int.reduceBEq, Bool.true_beq, Bool.false_beq, Vm.S, Nat.reduceLeDiff, q77]
        refine kept_intro ⟨l.length - (i + 1), by omega, _, le_mk [(1, .v (.int .i64 year)), (5, .own true 27 12 ((allN year (l.take (i + 1))).map ndAv)), (6, .own true 126 2 (l.map kvAv)), (7, .v (.int .i64 (i + 1 : Nat)))] ?_, i + 1, by omega, rfl, rfl⟩
        simp only [List.forall_mem_cons, List.not_mem_nil, false_imp_iff, implies_true, and_true, hw, est, Option.toList, List.append_nil]
        try simp -dsimp only [Vm.E, List.lookup, Nat.reduceAdd, Nat.reduceBEq, Int.reduceBNe, Int.reduceBEq, Bool.true_beq, Bool.false_beq, Vm.S, Nat.reduceLeDiff, q77, hw, est, Option.toList, List.append_nil]
        repeat' first | exact Fg.refl _ | exact Fg.nil _ _ _ (by decide) | refine And.intro ?_ ?_
    · have hge : ¬ i < l.length := by have := of_decide_eq_false hcc; omega
      simp -dsimp only [Vm.E, List.lookup, Nat.reduceAdd, Nat.reduceBEq, Int.reduceBNe, Int.reduceBEq, Bool.true_beq, Bool.false_beq, Vm.S, Nat.reduceLeDiff, q77]
      rw [List.take_of_length_le (by omega)]
      exact hq l hsc hln
def rtPathSpec : Vm.Spec := fun args h Q => ∃ (R : RId) (f : Fun) (year id : Int), args = [.ptr R.iv 0, .v (.int .i64 year), .v (.int .i64 id)] ∧ isRef h R f ∧ f.n ≤ 536870912 ∧ Q (.own true 27 12 ((pathOf f year 8 id).map ndAv)) h
set_option maxRecDepth 20000 in
theorem does_rtPath : Does Tryz.prog 79 rtPathSpec := by
  refine does_of_awp (good_cons does_rtGet good_nil) Tryz.func79 rfl (by decide +kernel) (by decide +kernel) ?_
  rintro args h Q ⟨R, f, year, id, rfl, hR, hfn, hq⟩
  refine ⟨by simp [Tryz.f79], ?_⟩
  rw [awpFunc_some (by rfl)]
  simp -dsimp only [Vm.E, List.lookup, Nat.reduceAdd, Nat.reduceBEq, Int.reduceBNe, Int.reduceBEq, Bool.true_beq, Bool.false_beq, Vm.S, Nat.reduceLeDiff, q79]
  refine awp_loop (fun m s h' => ∃ (id' : Int) (done : List Nd), done.length + m = 8 ∧ h' = h ∧ done ++ pathOf f year m id' = pathOf f year 8 id ∧ s = mk [(0, .ptr R.iv 0), (1, .v (.int .i64 year)), (2, .v (.int .i64 id')), (7, .own true 27 12 (done.map ndAv))])
    8 _ (le_mk _ ?_) ⟨id, [], rfl, rfl, rfl, rfl⟩ ?_
  · simp only [List.forall_mem_cons, List.not_mem_nil, false_imp_iff, implies_true, and_true]
    try simp -dsimp only [Vm.E, List.lookup, Nat.reduceAdd, Nat.reduceBEq, Int.reduceBNe, Int.reduceBEq, Bool.true_beq, Bool.false_beq, Vm.S, Nat.reduceLeDiff, q79]
    repeat' first | exact Fg.refl _ | exact Fg.nil _ _ _ (by decide) | refine And.intro ?_ ?_
  · rintro m s h' ⟨id', done, hd, rfl, hp, rfl⟩
    simp -dsimp only [Vm.E, List.lookup, Nat.reduceAdd, Nat.reduceBEq, Int.reduceBNe, Int.reduceBEq, Bool.true_beq, Bool.false_beq, Vm.S, Nat.reduceLeDiff, q79, List.length_map]
    refine cond_intro (fun hc => ?_) (fun hc => ?_)
    · have hlt : done.length < 8 := by have := of_decide_eq_true hc; omega
      have hm : m = (m - 1) + 1 := by omega
      generalize m - 1 = k at hm
      rw [hm] at hp
      simp only [pathOf] at hp
      simp -dsimp only [Vm.E, List.lookup, Nat.reduceAdd, Nat.reduceBEq, Int.reduceBNe, Int.reduceBEq, Bool.true_beq, Bool.false_beq, Vm.S, Nat.reduceLeDiff, q79]
      refine call_one (S := rtGetSpec) rfl _ GaL.rfl ⟨R, f, year, id', rfl, hR, hfn, fun n hn => ?_, fun hn => ?_⟩
      · rw [hn] at hp
        have hp : done ++ (n :: if n.parent = 0 then [] else pathOf f year k n.parent) = pathOf f year 8 id := hp
        simp only [ndCells]
        simp -dsimp only [Vm.E, List.lookup, Nat.reduceAdd, Nat.reduceBEq, Int.reduceBNe, Int.reduceBEq, Bool.true_beq, Bool.false_beq, Vm.S, Nat.reduceLeDiff, q79]
        refine bs_intro zr27 (by decide) (by decide) rfl rfl (by simp [solid, AV.cells]) ?_
        simp -dsimp only [Vm.E, List.lookup, Nat.reduceAdd, Nat.reduceBEq, Int.reduceBNe, Int.reduceBEq, Bool.true_beq, Bool.false_beq, Vm.S, Nat.reduceLeDiff, q79]
        refine app_sl Tryz.underlying22 (by simp [AV.cells]) (by simp only [List.length_map, List.length_cons, List.length_nil]; omega) ?_
        have ed : done.map ndAv ++ [AV.agg [.v (.int .i64 n.year), .v (.int .i64 n.id), .v (.int .i64 n.parent), .v (.int .i64 n.fund), .v (.int .i64 n.obj), .v (.bool n.abs), .v (.int .i64 n.limit), .v (.int .i64 n.pre), .v (.int .i64 n.enc), .v (.int .i64 n.exp), .v (.int .i64 n.lapsed), .v (.int .i64 n.carried)]] = (done ++ [n]).map ndAv := by
          simp [ndAv, ndCells]
        simp -dsimp only [Vm.E, List.lookup, Nat.reduceAdd, Nat.reduceBEq, Int.reduceBNe, Int.reduceBEq, Bool.true_beq, Bool.false_beq, Vm.S, Nat.reduceLeDiff, q79, ed]
        cases c1 : (n.parent == 0)
        · have d1 : ¬ n.parent = 0 := by simpa using c1
          rw [if_neg d1] at hp
          simp -dsimp only [Vm.E, List.lookup, Nat.reduceAdd, Nat.reduceBEq, Int.reduceBNe, Int.reduceBEq, Bool.true_beq, Bool.false_beq, Vm.S, Nat.reduceLeDiff, q79]
          refine kept_intro ⟨k, by omega, _, le_mk [(0, .ptr R.iv 0), (1, .v (.int .i64 year)), (2, .v (.int .i64 n.parent)), (7, .own true 27 12 ((done ++ [n]).map ndAv))] ?_, n.parent, done ++ [n], by simp only [List.length_append, List.length_cons, List.length_nil]; omega, rfl, by rw [List.append_assoc]; exact hp, rfl⟩
          simp only [List.forall_mem_cons, List.not_mem_nil, false_imp_iff, implies_true, and_true]
          try simp -dsimp only [Vm.E, List.lookup, Nat.reduceAdd, Nat.reduceBEq, Int.reduceBNe, Int.reduceBEq, Bool.true_beq, Bool.false_beq, Vm.S, Nat.reduceLeDiff, q79]
          repeat' first | exact Fg.refl _ | exact Fg.nil _ _ _ (by decide) | refine And.intro ?_ ?_
        · have d1 : n.parent = 0 := by simpa using c1
          rw [if_pos d1] at hp
          simp -dsimp only [Vm.E, List.lookup, Nat.reduceAdd, Nat.reduceBEq, Int.reduceBNe, Int.reduceBEq, Bool.true_beq, Bool.false_beq, Vm.S, Nat.reduceLeDiff, q79]
          rw [← hp] at hq
          exact hq
      · rw [hn] at hp
        have hp : done ++ [] = pathOf f year 8 id := hp
        simp only [ndCells]
        simp -dsimp only [Vm.E, List.lookup, Nat.reduceAdd, Nat.reduceBEq, Int.reduceBNe, Int.reduceBEq, Bool.true_beq, Bool.false_beq, Vm.S, Nat.reduceLeDiff, q79]
        rw [← hp, List.append_nil] at hq
        exact hq
    · have hge : ¬ done.length < 8 := by have := of_decide_eq_false hc; omega
      have hm : m = 0 := by omega
      rw [hm] at hp
      have hp : done ++ [] = pathOf f year 8 id := hp
      simp -dsimp only [Vm.E, List.lookup, Nat.reduceAdd, Nat.reduceBEq, Int.reduceBNe, Int.reduceBEq, Bool.true_beq, Bool.false_beq, Vm.S, Nat.reduceLeDiff, q79]
      rw [← hp, List.append_nil] at hq
      exact hq
theorem does_rtUsed : Does Tryz.prog 78 usedSpec := by
  refine does_of_awp good_nil Tryz.func78 rfl (by decide +kernel) (by decide +kernel) ?_
  rintro args h Q ⟨n, rfl, hq⟩
  refine ⟨by simp [Tryz.f78], ?_⟩
  rw [awpFunc_some (by rfl)]
  unfold usedOf at hq
  simp only [ndCells]
  simp -dsimp only [Vm.E, List.lookup, Nat.reduceAdd, Nat.reduceBEq, Int.reduceBNe, Int.reduceBEq, Bool.true_beq, Bool.false_beq, Vm.S, Nat.reduceLeDiff, q78]
  exact hq
end Go.Proofs.Lx
/- Documents, pre-encumbrances: docs.Put, pre. -/
set_option linter.unusedSimpArgs false
set_option linter.unusedVariables false
namespace Go.Proofs.Lx
open Go.Vm
attribute [local irreducible] awpArr awpBin awpMake awpAppend awpCvX awpStrOf awpBinX awpSlice awpBS awpStore awpAlloc awpCopy awpIndex awpDraw awpIdxX awpFa awpField awpLookup awpUpdate awpDelete awpClear awpRange awpNext awpEntry awpBuild awpClearS awpIdxL awpTree appB awpIdxO eltA treeA
structure Dl where
  node : Int
  orig : Int
  liq : Int
  can : Int
def Dl.ok (x : Dl) : Prop := I64 x.node ∧ I64 x.orig ∧ I64 x.liq ∧ I64 x.can
structure Dc where
  id : Int
  kind : Int
  year : Int
  frm : Int
  lines : Int
def Dc.ok (d : Dc) : Prop := I64 d.id ∧ I64 d.kind ∧ I64 d.year ∧ I64 d.frm ∧ I64 d.lines
def dlK (id i : Int) : List UInt8 := keyOf 76 [id, i]
def dlV (x : Dl) : List UInt8 := packOf [x.node, x.orig, x.liq, x.can]
def dcK (id : Int) : List UInt8 := keyOf 68 [id]
def dcV (d : Dc) : List UInt8 := packOf [d.kind, d.year, d.frm, d.lines]
/-- A document's lines, put. -/
def putLines (id : Int) : Nat → List Dl → Fun → Fun
  | _, [], f => f
  | i, x :: r, f => putLines id (i + 1) r (upd f (dlK id i) (some (dlV x)))
def docsF (f : Fun) (id : Int) (d : Dc) (l : List Dl) : Fun := upd (putLines id 0 l (upd f (seqKey 2) (some (be 8 id)))) (dcK id) (some (dcV { d with id := id, lines := l.length }))
def docsPut (f : Fun) (d : Dc) (l : List Dl) : Fun × Int × Int :=
  if l.length = 0 ∨ 6 < l.length then (f, 0, 1)
  else if readOf f (seqKey 2) < 0 ∨ 4294967294 < readOf f (seqKey 2) then (f, 0, 9)
  else (docsF f (readOf f (seqKey 2) + 1) d l, readOf f (seqKey 2) + 1, 0)
/-- Lines' nodes, charged. -/
def chargeL (year : Int) : List Dl → Fun → Bool → Fun × Bool × Int
  | [], f, w => (f, w, 0)
  | x :: r, f, w => if (chargeOf f year x.node ⟨x.orig, 0, 0⟩).2.2 ≠ 0 then ((chargeOf f year x.node ⟨x.orig, 0, 0⟩).1, false, (chargeOf f year x.node ⟨x.orig, 0, 0⟩).2.2)
    else chargeL year r (chargeOf f year x.node ⟨x.orig, 0, 0⟩).1 (w || (chargeOf f year x.node ⟨x.orig, 0, 0⟩).2.1)
attribute [local irreducible] chargeOf chargeL docsPut
def Ln.ok (x : Ln) : Prop := I64 x.fund ∧ I64 x.obj ∧ I64 x.node ∧ I64 x.amt
end Go.Proofs.Lx
/- The law SeqnRises: walked. -/
set_option linter.unusedSimpArgs false
set_option linter.unusedVariables false
namespace Go.Proofs.Lx
open Go.Vm
attribute [local irreducible] awpArr awpBin awpMake awpAppend awpCvX awpStrOf awpBinX awpSlice awpBS awpStore awpAlloc awpCopy awpIndex awpDraw awpIdxX awpFa awpField awpLookup awpUpdate awpDelete awpClear awpRange awpNext awpEntry awpBuild
end Go.Proofs.Lx
/- The law SeqnGives. -/
set_option linter.unusedSimpArgs false
set_option linter.unusedVariables false
namespace Go.Proofs.Lx
open Go.Vm
attribute [local irreducible] awpArr awpBin awpMake awpAppend awpCvX awpStrOf awpBinX awpSlice awpBS awpStore awpAlloc awpCopy awpIndex awpDraw awpIdxX awpFa awpField awpLookup awpUpdate awpDelete awpClear awpRange awpNext awpEntry awpBuild awpClearS awpIdxL
end Go.Proofs.Lx
/- The law YearsLive. -/
set_option linter.unusedSimpArgs false
set_option linter.unusedVariables false
namespace Go.Proofs.Lx
open Go.Vm
attribute [local irreducible] awpArr awpBin awpMake awpAppend awpCvX awpStrOf awpBinX awpSlice awpBS awpStore awpAlloc awpCopy awpIndex awpDraw awpIdxX awpFa awpField awpLookup awpUpdate awpDelete awpClear awpRange awpNext awpEntry awpBuild awpClearS awpIdxL awpTree appB awpIdxO eltA treeA
theorem both_rnew {h : Heap} {V : VId} (hV : isView h V noF) : Both (rNewH h) V (rNewId h) noF := by
  refine ⟨by unfold rNewH; exact hV.more _, isRef_new h, fun i hi hm => ?_⟩
  obtain ⟨chg, clk, mem, clk2, h1, h2, h3, -⟩ := hV
  have a1 := get_lt h1
  have a2 := get_lt h2
  have a3 := get_lt h3
  simp only [rNewId, List.mem_cons, List.not_mem_nil, or_false] at hi hm
  omega
def rNewASpec : Vm.Spec := fun args h Q => ∃ V : VId, args = [.sl 2 []] ∧ isView h V noF ∧ ∀ (R : RId) (h' : Heap), Both h' V R noF → Q (.ptr R.iv 0) h'
theorem does_rNewA : Does Tryz.prog 17 rNewASpec := does_rNew.imp (by
  rintro args h Q ⟨V, rfl, hV, hq⟩
  exact ⟨rfl, hq (rNewId h) (rNewH h) (both_rnew hV)⟩)
end Go.Proofs.Lx
/- The law PreOpen. -/
set_option linter.unusedSimpArgs false
set_option linter.unusedVariables false
namespace Go.Proofs.Lx
open Go.Vm
attribute [local irreducible] awpArr awpBin awpMake awpAppend awpCvX awpStrOf awpBinX awpSlice awpBS awpStore awpAlloc awpCopy awpIndex awpDraw awpIdxX awpFa awpField awpLookup awpUpdate awpDelete awpClear awpRange awpNext awpEntry awpBuild awpClearS awpIdxL awpTree appB awpIdxO eltA treeA
end Go.Proofs.Lx
/- What was used: actual. -/
set_option linter.unusedSimpArgs false
set_option linter.unusedVariables false
namespace Go.Proofs.Lx
open Go.Vm
attribute [local irreducible] awpArr awpBin awpMake awpAppend awpCvX awpStrOf awpBinX awpSlice awpBS awpStore awpAlloc awpCopy awpIndex awpDraw awpIdxX awpFa awpField awpLookup awpUpdate awpDelete awpClear awpRange awpNext awpEntry awpBuild awpClearS awpIdxL awpTree appB awpIdxO eltA treeA
def capM (a : Int) : Int := if 281474976710656 < a then 281474976710656 else a
def shareOf (a b : Int) : Int := if a < 1 then 0 else if b < 1 then 10000 else w64 ((w64 (capM a * 10000)).tdiv (capM b))
theorem capM_pos {b : Int} (h : ¬ b < 1) : capM b ≠ 0 := by unfold capM; split <;> omega
def shareSpec : Vm.Spec := fun args h Q => ∃ a b : Int, args = [.v (.int .i64 a), .v (.int .i64 b)] ∧ Q (.v (.int .i64 (shareOf a b))) h
set_option maxHeartbeats 1000000 in
theorem does_share : Does Tryz.prog 23 shareSpec := by
  refine does_of_awp good_nil Tryz.func23 rfl (by decide +kernel) (by decide +kernel) ?_
  rintro args h Q ⟨a, b, rfl, hq⟩
  refine ⟨by simp [Tryz.f23], ?_⟩
  rw [awpFunc_some (by rfl)]
  unfold shareOf at hq
  simp -dsimp only [Vm.E, List.lookup, Nat.reduceAdd, Nat.reduceBEq, Int.reduceBNe, Int.reduceBEq, Bool.true_beq, Bool.false_beq, Vm.S, Nat.reduceLeDiff, q23]
  cases c1 : decide (a < 1)
  · have d1 := of_decide_eq_false c1
    rw [if_neg d1] at hq
    simp -dsimp only [Vm.E, List.lookup, Nat.reduceAdd, Nat.reduceBEq, Int.reduceBNe, Int.reduceBEq, Bool.true_beq, Bool.false_beq, Vm.S, Nat.reduceLeDiff, q23, c1]
    cases c2 : decide (b < 1)
    · have d2 := of_decide_eq_false c2
      rw [if_neg d2] at hq
      simp -dsimp only [Vm.E, List.lookup, Nat.reduceAdd, Nat.reduceBEq, Int.reduceBNe, Int.reduceBEq, Bool.true_beq, Bool.false_beq, Vm.S, Nat.reduceLeDiff, q23, c2]
      refine quo_intro (capM_pos d2) ?_
      simp -dsimp only [Vm.E, List.lookup, Nat.reduceAdd, Nat.reduceBEq, Int.reduceBNe, Int.reduceBEq, Bool.true_beq, Bool.false_beq, Vm.S, Nat.reduceLeDiff, q23]
      exact hq
    · have d2 := of_decide_eq_true c2
      rw [if_pos d2] at hq
      simp -dsimp only [Vm.E, List.lookup, Nat.reduceAdd, Nat.reduceBEq, Int.reduceBNe, Int.reduceBEq, Bool.true_beq, Bool.false_beq, Vm.S, Nat.reduceLeDiff, q23, c2]
      exact hq
  · have d1 := of_decide_eq_true c1
    rw [if_pos d1] at hq
    simp -dsimp only [Vm.E, List.lookup, Nat.reduceAdd, Nat.reduceBEq, Int.reduceBNe, Int.reduceBEq, Bool.true_beq, Bool.false_beq, Vm.S, Nat.reduceLeDiff, q23, c1]
    exact hq
set_option maxHeartbeats 1000000 in
theorem does_rShare : Does Tryz.prog 24 shareSpec := by
  refine does_of_awp good_nil Tryz.func24 rfl (by decide +kernel) (by decide +kernel) ?_
  rintro args h Q ⟨a, b, rfl, hq⟩
  refine ⟨by simp [Tryz.f24], ?_⟩
  rw [awpFunc_some (by rfl)]
  unfold shareOf at hq
  simp -dsimp only [Vm.E, List.lookup, Nat.reduceAdd, Nat.reduceBEq, Int.reduceBNe, Int.reduceBEq, Bool.true_beq, Bool.false_beq, Vm.S, Nat.reduceLeDiff, q24]
  cases c1 : decide (a < 1)
  · have d1 := of_decide_eq_false c1
    rw [if_neg d1] at hq
    simp -dsimp only [Vm.E, List.lookup, Nat.reduceAdd, Nat.reduceBEq, Int.reduceBNe, Int.reduceBEq, Bool.true_beq, Bool.false_beq, Vm.S, Nat.reduceLeDiff, q24, c1]
    cases c2 : decide (b < 1)
    · have d2 := of_decide_eq_false c2
      rw [if_neg d2] at hq
      simp -dsimp only [Vm.E, List.lookup, Nat.reduceAdd, Nat.reduceBEq, Int.reduceBNe, Int.reduceBEq, Bool.true_beq, Bool.false_beq, Vm.S, Nat.reduceLeDiff, q24, c2]
      refine quo_intro (capM_pos d2) ?_
      simp -dsimp only [Vm.E, List.lookup, Nat.reduceAdd, Nat.reduceBEq, Int.reduceBNe, Int.reduceBEq, Bool.true_beq, Bool.false_beq, Vm.S, Nat.reduceLeDiff, q24]
      exact hq
    · have d2 := of_decide_eq_true c2
      rw [if_pos d2] at hq
      simp -dsimp only [Vm.E, List.lookup, Nat.reduceAdd, Nat.reduceBEq, Int.reduceBNe, Int.reduceBEq, Bool.true_beq, Bool.false_beq, Vm.S, Nat.reduceLeDiff, q24, c2]
      exact hq
  · have d1 := of_decide_eq_true c1
    rw [if_pos d1] at hq
    simp -dsimp only [Vm.E, List.lookup, Nat.reduceAdd, Nat.reduceBEq, Int.reduceBNe, Int.reduceBEq, Bool.true_beq, Bool.false_beq, Vm.S, Nat.reduceLeDiff, q24, c1]
    exact hq
structure Al where
  node : Int
  level : Int
  limit : Int
  used : Int
  left : Int
  share : Int
def alCells (x : Al) : List AV := [.v (.int .i64 x.node), .v (.int .i64 x.level), .v (.int .i64 x.limit), .v (.int .i64 x.used), .v (.int .i64 x.left), .v (.int .i64 x.share)]
def alAv (x : Al) : AV := .agg (alCells x)
def alOf (f : Fun) (year : Int) (n : Nd) : Al := ⟨n.id, w64 ((pathOf f year 8 n.id).length - 1), n.limit, usedOf n, w64 (n.limit - usedOf n), shareOf (usedOf n) n.limit⟩
def alineSpec : Vm.Spec := fun args h Q => ∃ (V : VId) (f : Fun) (year : Int) (n : Nd), args = [.agg [.ptr V.iv 0, .v (.int .i64 year)], .agg (ndCells n)] ∧ isView h V f ∧ Q (.agg (alCells (alOf f year n))) h
set_option maxRecDepth 20000 in
set_option maxHeartbeats 2000000 in
theorem does_aline : Does Tryz.prog 73 alineSpec := by
  refine does_of_awp (good_cons does_used (good_cons does_tpath (good_cons does_share good_nil))) Tryz.func73 rfl (by decide +kernel) (by decide +kernel) ?_
  rintro args h Q ⟨V, f, year, n, rfl, hV, hq⟩
  refine ⟨by simp [Tryz.f73], ?_⟩
  rw [awpFunc_some (by rfl)]
  simp only [ndCells]
  simp -dsimp only [Vm.E, List.lookup, Nat.reduceAdd, Nat.reduceBEq, Int.reduceBNe, Int.reduceBEq, Bool.true_beq, Bool.false_beq, Vm.S, Nat.reduceLeDiff, q73]
  refine call_one (S := usedSpec) rfl _ GaL.rfl ⟨n, rfl, ?_⟩
  simp -dsimp only [Vm.E, List.lookup, Nat.reduceAdd, Nat.reduceBEq, Int.reduceBNe, Int.reduceBEq, Bool.true_beq, Bool.false_beq, Vm.S, Nat.reduceLeDiff, q73]
  refine call_one (S := tpathSpec) rfl _ GaL.rfl ⟨V, f, year, n.id, rfl, hV, ?_⟩
  unfold alOf at hq
  generalize pathOf f year 8 n.id = p at hq ⊢
  generalize usedOf n = u at hq ⊢
  simp only [alCells] at hq
  simp -dsimp only [Vm.E, List.lookup, Nat.reduceAdd, Nat.reduceBEq, Int.reduceBNe, Int.reduceBEq, Bool.true_beq, Bool.false_beq, Vm.S, Nat.reduceLeDiff, q73]
  refine draw_cont [3] (.take 0 (.take 1 (.take 2 (.take 3 (.take 4 (.take 5 (.take 6 (.take 7 (.take 8 (.take 9 (.take 10 (.take 11 (.take 12 (.take 13 (.take 14 (.alt 15 (.alt 16 (.alt 17 (.done) .stop) .stop) .stop)))))))))))))))) (fun s h2 => h2 = h ∧ s 4 = .box [.v (.int .i64 n.id), .v (.int .i64 (w64 (p.length - 1))), .v (.int .i64 n.limit), .v (.int .i64 u), .v (.int .i64 (w64 (n.limit - u))), .v (.int .i64 (shareOf u n.limit))]) (by kernel_rfl) (by kernel_rfl) (by kernel_rfl) (by decide) ?_ ?_
  · repeat' first
      | with_reducible exact True.intro
      | simp -dsimp only [Vm.E, List.lookup, Nat.reduceAdd, Nat.reduceBEq, Int.reduceBNe, Int.reduceBEq, Bool.true_beq, Bool.false_beq, Vm.S, Nat.reduceLeDiff, q73, List.length_map]
      | refine call_one (S := shareSpec) rfl _ GaL.rfl ⟨u, n.limit, rfl, ?_⟩
      | refine tree_alt ?_ ?_
      | repeat' first | rfl | exact True.intro | refine And.intro ?_ ?_
  · rintro s h2 ⟨rfl, e4⟩
    simp -dsimp only [Vm.E, List.lookup, Nat.reduceAdd, Nat.reduceBEq, Int.reduceBNe, Int.reduceBEq, Bool.true_beq, Bool.false_beq, Vm.S, Nat.reduceLeDiff, q73, e4]
    exact hq
def alinesSpec : Vm.Spec := fun args h Q => ∃ (V : VId) (f : Fun) (year : Int), args = [.ptr V.iv 0, .v (.int .i64 year)] ∧ isView h V f ∧ f.n ≤ 536870912 ∧
  ∀ l h', ScanIs f (keyOf 78 [year]) l → l.length ≤ 2 * f.n → isView h' V f → Same h h' [] → Q (.own true 35 6 (((allN year l).map (alOf f year)).map alAv)) h'
theorem allN_length (year : Int) (l : List KV) : (allN year l).length ≤ l.length := List.length_filterMap_le ..
set_option maxRecDepth 20000 in
set_option maxHeartbeats 2000000 in
theorem does_alines : Does Tryz.prog 15 alinesSpec := by
  refine does_of_awp (good_cons does_tall (good_cons does_aline good_nil)) Tryz.func15 rfl (by decide +kernel) (by decide +kernel) ?_
  rintro args h Q ⟨V, f, year, rfl, hV, hn, hq⟩
  refine ⟨by simp [Tryz.f15], ?_⟩
  rw [awpFunc_some (by rfl)]
  simp -dsimp only [Vm.E, List.lookup, Nat.reduceAdd, Nat.reduceBEq, Int.reduceBNe, Int.reduceBEq, Bool.true_beq, Bool.false_beq, Vm.S, Nat.reduceLeDiff, q15]
  refine call_one (S := tallSpec) rfl _ GaL.rfl ⟨V, f, year, rfl, hV, hn, fun l h1 hsc hln hV1 hs1 => ?_⟩
  have hq := hq l h1 hsc hln hV1 hs1
  have hnl := allN_length year l
  generalize allN year l = ns at hq hnl ⊢
  simp -dsimp only [Vm.E, List.lookup, Nat.reduceAdd, Nat.reduceBEq, Int.reduceBNe, Int.reduceBEq, Bool.true_beq, Bool.false_beq, Vm.S, Nat.reduceLeDiff, q15]
  refine awp_loop (fun m s h' => ∃ i : Nat, i + m = ns.length ∧ h' = h1 ∧ s = mk [(5, .box [.ptr V.iv 0, .v (.int .i64 year)]), (6, .own true 35 6 (((ns.take (i)).map (alOf f year)).map alAv)), (14, .own true 27 12 (ns.map ndAv)), (15, .v (.int .i64 ns.length)), (16, .v (.int .i64 (i : Nat)))])
    ns.length _ (le_mk _ ?_) ⟨0, by omega, rfl, rfl⟩ ?_
  · simp only [List.forall_mem_cons, List.not_mem_nil, false_imp_iff, implies_true, and_true]
    try simp -dsimp only [Vm.E, List.lookup, Nat.reduceAdd, Nat.reduceBEq, Int.reduceBNe, Int.reduceBEq, Bool.true_beq, Bool.false_beq, Vm.S, Nat.reduceLeDiff, q15]
    repeat' first | exact Fg.refl _ | exact Fg.nil _ _ _ (by decide) | refine And.intro ?_ ?_
  · rintro m s h' ⟨i, hi, rfl, rfl⟩
    simp -dsimp only [Vm.E, List.lookup, Nat.reduceAdd, Nat.reduceBEq, Int.reduceBNe, Int.reduceBEq, Bool.true_beq, Bool.false_beq, Vm.S, Nat.reduceLeDiff, q15]
    refine cond_intro (fun hcc => ?_) (fun hcc => ?_)
    · have hlt : i < ns.length := by have := of_decide_eq_true hcc; omega
      have hw : IntKind.i64.wrap ((i : Int) + 1) = ((i + 1 : Nat) : Int) := by rw [wrap_i64 (by omega) (by omega)]; simp
      have hget : (ns.map ndAv)[i]? = some (ndAv ns[i]) := by simp [hlt]
      have htk : ns.take (i + 1) = ns.take i ++ [ns[i]] := List.take_succ_eq_append_getElem hlt
      generalize ns[i] = n at hget htk
      simp -dsimp only [Vm.E, List.lookup, Nat.reduceAdd, Nat.reduceBEq, Int.reduceBNe, Int.reduceBEq, Bool.true_beq, Bool.false_beq, Vm.S, Nat.reduceLeDiff, q15]
      refine idxO_intro (by omega) (by simp; omega) ?_
      simp -dsimp only [Vm.E, List.lookup, Nat.reduceAdd, Nat.reduceBEq, Int.reduceBNe, Int.reduceBEq, Bool.true_beq, Bool.false_beq, Vm.S, Nat.reduceLeDiff, q15, Int.toNat_natCast]
      refine eltA_intro hget ?_
      simp only [ndAv, ndCells]
      simp -dsimp only [Vm.E, List.lookup, Nat.reduceAdd, Nat.reduceBEq, Int.reduceBNe, Int.reduceBEq, Bool.true_beq, Bool.false_beq, Vm.S, Nat.reduceLeDiff, q15, AV.cells, List.drop_zero]
      refine call_one (S := alineSpec) rfl _ GaL.rfl ⟨V, f, year, n, rfl, hV1, ?_⟩
      have hcell : (alCells (alOf f year n)).length = 6 := rfl
      generalize hx : alOf f year n = x at hcell ⊢
      simp only [alCells]
      simp -dsimp only [Vm.E, List.lookup, Nat.reduceAdd, Nat.reduceBEq, Int.reduceBNe, Int.reduceBEq, Bool.true_beq, Bool.false_beq, Vm.S, Nat.reduceLeDiff, q15]
      refine bs_intro zr35 (by decide) (by decide) rfl rfl (by simp [solid, AV.cells]) ?_
      simp -dsimp only [Vm.E, List.lookup, Nat.reduceAdd, Nat.reduceBEq, Int.reduceBNe, Int.reduceBEq, Bool.true_beq, Bool.false_beq, Vm.S, Nat.reduceLeDiff, q15]
      refine app_sl Tryz.underlying32 (by simp [AV.cells]) (by simp only [List.length_map, List.length_cons, List.length_nil, List.length_take]; omega) ?_
      simp -dsimp only [Vm.E, List.lookup, Nat.reduceAdd, Nat.reduceBEq, Int.reduceBNe, Int.reduceBEq, Bool.true_beq, Bool.false_beq, Vm.S, Nat.reduceLeDiff, q15]
      refine kept_intro ⟨ns.length - (i + 1), by omega, _, le_mk [(5, .box [.ptr V.iv 0, .v (.int .i64 year)]), (6, .own true 35 6 (((ns.take (i + 1)).map (alOf f year)).map alAv)), (14, .own true 27 12 (ns.map ndAv)), (15, .v (.int .i64 ns.length)), (16, .v (.int .i64 (i + 1 : Nat)))] ?_, i + 1, by omega, rfl, rfl⟩
      simp only [List.forall_mem_cons, List.not_mem_nil, false_imp_iff, implies_true, and_true, hw, htk, List.map_append, List.map_cons, List.map_nil, hx, alAv, alCells]
      try simp -dsimp only [Vm.E, List.lookup, Nat.reduceAdd, Nat.reduceBEq, Int.reduceBNe, Int.reduceBEq, Bool.true_beq, Bool.false_beq, Vm.S, Nat.reduceLeDiff, q15, hw, htk, List.map_append, List.map_cons, List.map_nil, hx, alAv, alCells]
      repeat' first | exact Fg.refl _ | exact Fg.nil _ _ _ (by decide) | refine And.intro ?_ ?_
    · have hge : ¬ i < ns.length := by have := of_decide_eq_false hcc; omega
      simp -dsimp only [Vm.E, List.lookup, Nat.reduceAdd, Nat.reduceBEq, Int.reduceBNe, Int.reduceBEq, Bool.true_beq, Bool.false_beq, Vm.S, Nat.reduceLeDiff, q15]
      rw [List.take_of_length_le (by omega)]
      exact hq
/-- The numbers of nodes that used more than they may. -/
def beyOf (n : Nd) : Option Int := if usedOf n > n.limit then some n.id else none
def beyondSpec : Vm.Spec := fun args h Q => ∃ (V : VId) (f : Fun) (year : Int), args = [.ptr V.iv 0, .v (.int .i64 year)] ∧ isView h V f ∧ f.n ≤ 536870912 ∧
  ∀ l h', ScanIs f (keyOf 78 [year]) l → l.length ≤ 2 * f.n → isView h' V f → Same h h' [] → Q (.own true 3 1 (((allN year l).filterMap beyOf).map encI)) h'
set_option maxRecDepth 20000 in
set_option maxHeartbeats 2000000 in
theorem does_beyond : Does Tryz.prog 14 beyondSpec := by
  refine does_of_awp (good_cons does_tall (good_cons does_used good_nil)) Tryz.func14 rfl (by decide +kernel) (by decide +kernel) ?_
  rintro args h Q ⟨V, f, year, rfl, hV, hn, hq⟩
  refine ⟨by simp [Tryz.f14], ?_⟩
  rw [awpFunc_some (by rfl)]
  simp -dsimp only [Vm.E, List.lookup, Nat.reduceAdd, Nat.reduceBEq, Int.reduceBNe, Int.reduceBEq, Bool.true_beq, Bool.false_beq, Vm.S, Nat.reduceLeDiff, q14]
  refine call_one (S := tallSpec) rfl _ GaL.rfl ⟨V, f, year, rfl, hV, hn, fun l h1 hsc hln hV1 hs1 => ?_⟩
  have hq := hq l h1 hsc hln hV1 hs1
  have hnl := allN_length year l
  generalize allN year l = ns at hq hnl ⊢
  simp -dsimp only [Vm.E, List.lookup, Nat.reduceAdd, Nat.reduceBEq, Int.reduceBNe, Int.reduceBEq, Bool.true_beq, Bool.false_beq, Vm.S, Nat.reduceLeDiff, q14]
  refine awp_loop (fun m s h' => ∃ i : Nat, i + m = ns.length ∧ h' = h1 ∧ s = mk [(5, .own true 3 1 (((ns.take (i)).filterMap beyOf).map encI)), (10, .own true 27 12 (ns.map ndAv)), (11, .v (.int .i64 ns.length)), (12, .v (.int .i64 (i : Nat)))])
    ns.length _ (le_mk _ ?_) ⟨0, by omega, rfl, rfl⟩ ?_
  · simp only [List.forall_mem_cons, List.not_mem_nil, false_imp_iff, implies_true, and_true]
    try simp -dsimp only [Vm.E, List.lookup, Nat.reduceAdd, Nat.reduceBEq, Int.reduceBNe, Int.reduceBEq, Bool.true_beq, Bool.false_beq, Vm.S, Nat.reduceLeDiff, q14]
    repeat' first | exact Fg.refl _ | exact Fg.nil _ _ _ (by decide) | refine And.intro ?_ ?_
  · rintro m s h' ⟨i, hi, rfl, rfl⟩
    simp -dsimp only [Vm.E, List.lookup, Nat.reduceAdd, Nat.reduceBEq, Int.reduceBNe, Int.reduceBEq, Bool.true_beq, Bool.false_beq, Vm.S, Nat.reduceLeDiff, q14]
    refine cond_intro (fun hcc => ?_) (fun hcc => ?_)
    · have hlt : i < ns.length := by have := of_decide_eq_true hcc; omega
      have hw : IntKind.i64.wrap ((i : Int) + 1) = ((i + 1 : Nat) : Int) := by rw [wrap_i64 (by omega) (by omega)]; simp
      have hget : (ns.map ndAv)[i]? = some (ndAv ns[i]) := by simp [hlt]
      have est := filterMap_step beyOf ns i hlt
      have hal : ((ns.take i).filterMap beyOf).length ≤ i := filterMap_le beyOf ns i
      generalize ns[i] = n at hget est
      have eb : beyOf n = if usedOf n > n.limit then some n.id else none := rfl
      rw [eb] at est
      simp -dsimp only [Vm.E, List.lookup, Nat.reduceAdd, Nat.reduceBEq, Int.reduceBNe, Int.reduceBEq, Bool.true_beq, Bool.false_beq, Vm.S, Nat.reduceLeDiff, q14]
      refine idxO_intro (by omega) (by simp; omega) ?_
      simp -dsimp only [Vm.E, List.lookup, Nat.reduceAdd, Nat.reduceBEq, Int.reduceBNe, Int.reduceBEq, Bool.true_beq, Bool.false_beq, Vm.S, Nat.reduceLeDiff, q14, Int.toNat_natCast]
      refine eltA_intro hget ?_
      simp only [ndAv, ndCells]
      simp -dsimp only [Vm.E, List.lookup, Nat.reduceAdd, Nat.reduceBEq, Int.reduceBNe, Int.reduceBEq, Bool.true_beq, Bool.false_beq, Vm.S, Nat.reduceLeDiff, q14, AV.cells, List.drop_zero]
      refine draw_cont [7] (.take 0 (.take 2 (.take 3 (.alt 1 (.take 4 (.done)) .stop)))) (fun s h2 => h2 = h' ∧ s 20 = .v (.bool (decide (usedOf n > n.limit))) ∧ s 5 = .own true 3 1 (((ns.take i).filterMap beyOf).map encI) ∧ s 7 = .eptr (ndCells n) ∧ s 10 = .own true 27 12 (ns.map ndAv) ∧ s 11 = .v (.int .i64 ns.length) ∧ s 12 = .v (.int .i64 i)) (by kernel_rfl) (by kernel_rfl) (by kernel_rfl) (by decide) ?_ ?_
      · repeat' first
          | with_reducible exact True.intro
          | simp -dsimp only [Vm.E, List.lookup, Nat.reduceAdd, Nat.reduceBEq, Int.reduceBNe, Int.reduceBEq, Bool.true_beq, Bool.false_beq, Vm.S, Nat.reduceLeDiff, q14, ndCells]
          | refine call_one (S := usedSpec) rfl _ GaL.rfl ⟨n, rfl, ?_⟩
          | refine tree_alt ?_ ?_
          | repeat' first | rfl | exact True.intro | refine And.intro ?_ ?_
      · rintro s h2 ⟨rfl, e20, e5, e7, e10, e11, e12⟩
        simp only [ndCells] at e7
        have hd := Bool.eq_false_or_eq_true (decide (usedOf n > n.limit))
        rcases hd with c | c
        · have d := of_decide_eq_true c
          rw [if_pos d] at est
          rw [c] at e20
          simp -dsimp only [Vm.E, List.lookup, Nat.reduceAdd, Nat.reduceBEq, Int.reduceBNe, Int.reduceBEq, Bool.true_beq, Bool.false_beq, Vm.S, Nat.reduceLeDiff, q14, e20, e5, e7, e10, e11, e12]
          refine bs_intro zr3 (by decide) (by decide) rfl rfl (by simp [solid, AV.cells]) ?_
          simp -dsimp only [Vm.E, List.lookup, Nat.reduceAdd, Nat.reduceBEq, Int.reduceBNe, Int.reduceBEq, Bool.true_beq, Bool.false_beq, Vm.S, Nat.reduceLeDiff, q14, e20, e5, e7, e10, e11, e12]
          refine app_sl Tryz.underlying30 (by simp [AV.cells]) (by simp only [List.length_map, List.length_cons, List.length_nil]; omega) ?_
          simp -dsimp only [Vm.E, List.lookup, Nat.reduceAdd, Nat.reduceBEq, Int.reduceBNe, Int.reduceBEq, Bool.true_beq, Bool.false_beq, Vm.S, Nat.reduceLeDiff, q14, e20, e5, e7, e10, e11, e12]
          refine kept_intro ⟨ns.length - (i + 1), by omega, _, le_mk [(5, .own true 3 1 (((ns.take (i + 1)).filterMap beyOf).map encI)), (10, .own true 27 12 (ns.map ndAv)), (11, .v (.int .i64 ns.length)), (12, .v (.int .i64 (i + 1 : Nat)))] ?_, i + 1, by omega, rfl, rfl⟩
          simp only [List.forall_mem_cons, List.not_mem_nil, false_imp_iff, implies_true, and_true, hw, est, e5, e7, e10, e11, e12, Option.toList, List.map_append, List.map_cons, List.map_nil, encI]
          try simp -dsimp only [Vm.E, List.lookup, Nat.reduceAdd, Nat.reduceBEq, Int.reduceBNe, Int.reduceBEq, Bool.true_beq, Bool.false_beq, Vm.S, Nat.reduceLeDiff, q14, hw, est, e5, e7, e10, e11, e12, Option.toList, List.map_append, List.map_cons, List.map_nil, encI]
          repeat' first | exact Fg.refl _ | exact Fg.nil _ _ _ (by decide) | refine And.intro ?_ ?_
        · have d := of_decide_eq_false c
          rw [if_neg d] at est
          rw [c] at e20
          simp -dsimp only [Vm.E, List.lookup, Nat.reduceAdd, Nat.reduceBEq, Int.reduceBNe, Int.reduceBEq, Bool.true_beq, Bool.false_beq, Vm.S, Nat.reduceLeDiff, q14, e20, e5, e7, e10, e11, e12]
          refine kept_intro ⟨ns.length - (i + 1), by omega, _, le_mk [(5, .own true 3 1 (((ns.take (i + 1)).filterMap beyOf).map encI)), (10, .own true 27 12 (ns.map ndAv)), (11, .v (.int .i64 ns.length)), (12, .v (.int .i64 (i + 1 : Nat)))] ?_, i + 1, by omega, rfl, rfl⟩
          simp only [List.forall_mem_cons, List.not_mem_nil, false_imp_iff, implies_true, and_true, hw, est, e5, e7, e10, e11, e12, Option.toList, List.append_nil]
          try simp -dsimp only [Vm.E, List.lookup, Nat.reduceAdd, Nat.reduceBEq, Int.reduceBNe, Int.reduceBEq, Bool.true_beq, Bool.false_beq, Vm.S, Nat.reduceLeDiff, q14, hw, est, e5, e7, e10, e11, e12, Option.toList, List.append_nil]
          repeat' first | exact Fg.refl _ | exact Fg.nil _ _ _ (by decide) | refine And.intro ?_ ?_
    · have hge : ¬ i < ns.length := by have := of_decide_eq_false hcc; omega
      simp -dsimp only [Vm.E, List.lookup, Nat.reduceAdd, Nat.reduceBEq, Int.reduceBNe, Int.reduceBEq, Bool.true_beq, Bool.false_beq, Vm.S, Nat.reduceLeDiff, q14]
      rw [List.take_of_length_le (by omega)]
      exact hq
theorem alEq (x y : Al) : ((x.node == y.node) && ((x.level == y.level) && ((x.limit == y.limit) && ((x.used == y.used) && ((x.left == y.left) && (x.share == y.share)))))) = true ↔ x = y := by
  obtain ⟨a, b, c, d, e, f⟩ := x
  obtain ⟨a2, b2, c2, d2, e2, f2⟩ := y
  simp [and_assoc]
def eqSpecAl : Vm.Spec := fun args h Q => ∃ l l' : List Al, l.length ≤ 9223372036854775807 ∧ args = [.sl 6 (l.map alAv), .sl 6 (l'.map alAv)] ∧ ∀ b : Bool, (b = true ↔ l = l') → Q (.v (.bool b)) h
set_option maxHeartbeats 1000000 in
theorem does_eqAl : Does Tryz.prog 70 eqSpecAl := by
  refine does_of_awp good_nil Tryz.func70 rfl (by decide +kernel) (by decide +kernel) ?_
  rintro args h Q ⟨l, l', hl, rfl, hq⟩
  refine ⟨by simp [Tryz.f70], ?_⟩
  rw [awpFunc_some (by rfl)]
  simp -dsimp only [Vm.E, List.lookup, Nat.reduceAdd, Nat.reduceBEq, Int.reduceBNe, Int.reduceBEq, Bool.true_beq, Bool.false_beq, Vm.S, Nat.reduceLeDiff, q70]
  by_cases hlen : l.length = l'.length
  · have c1 : ((l.length : Int) != l'.length) = false := by simp [hlen]
    simp -dsimp only [Vm.E, List.lookup, Nat.reduceAdd, Nat.reduceBEq, Int.reduceBNe, Int.reduceBEq, Bool.true_beq, Bool.false_beq, Vm.S, Nat.reduceLeDiff, q70, c1]
    refine awp_loop (fun m s h' => ∃ i : Nat, i + m = l.length ∧ h' = h ∧ (∀ j (hj : j < l.length), j < i → l[j] = l'[j]'(by omega)) ∧ s = mk [(0, .sl 6 (l.map alAv)), (1, .sl 6 (l'.map alAv)), (12, .v (.int .i64 l.length)), (13, .v (.int .i64 i))])
      l.length _ (le_mk _ ?_) ⟨0, by omega, rfl, fun j _ hj => by omega, rfl⟩ ?_
    · simp only [List.forall_mem_cons, List.not_mem_nil, false_imp_iff, implies_true, and_true]
      try simp -dsimp only [Vm.E, List.lookup, Nat.reduceAdd, Nat.reduceBEq, Int.reduceBNe, Int.reduceBEq, Bool.true_beq, Bool.false_beq, Vm.S, Nat.reduceLeDiff, q70]
      repeat' first | exact Fg.refl _ | exact Fg.nil _ _ _ (by decide) | refine And.intro ?_ ?_
    · rintro m s h' ⟨i, hi, rfl, hb, rfl⟩
      simp -dsimp only [Vm.E, List.lookup, Nat.reduceAdd, Nat.reduceBEq, Int.reduceBNe, Int.reduceBEq, Bool.true_beq, Bool.false_beq, Vm.S, Nat.reduceLeDiff, q70]
      refine cond_intro (fun hcc => ?_) (fun hcc => ?_)
      · have hlt : i < l.length := by have := of_decide_eq_true hcc; omega
        have hlt' : i < l'.length := by omega
        obtain ⟨x, hx⟩ : ∃ x, l[i] = x := ⟨_, rfl⟩
        obtain ⟨y, hy⟩ : ∃ y, l'[i] = y := ⟨_, rfl⟩
        have hw : IntKind.i64.wrap ((i : Int) + 1) = ((i + 1 : Nat) : Int) := by rw [wrap_i64 (by omega) (by omega)]; simp
        simp -dsimp only [Vm.E, List.lookup, Nat.reduceAdd, Nat.reduceBEq, Int.reduceBNe, Int.reduceBEq, Bool.true_beq, Bool.false_beq, Vm.S, Nat.reduceLeDiff, q70]
        refine draw_cont [] (.take 0 (.take 1 (.take 2 (.take 3 (.take 4 (.take 5 (.take 6 (.take 7 (.take 8 (.done)))))))))) (fun s hx => hx = h' ∧ (∃ b : Bool, (b = true ↔ x = y) ∧ s 24 = .v (.bool (!b))) ∧ s 0 = .sl 6 (l.map alAv) ∧ s 1 = .sl 6 (l'.map alAv) ∧ s 12 = .v (.int .i64 l.length) ∧ s 13 = .v (.int .i64 i)) (by kernel_rfl) (by kernel_rfl) (by kernel_rfl) (by decide) ?_ ?_
        · simp -dsimp only [Vm.E, List.lookup, Nat.reduceAdd, Nat.reduceBEq, Int.reduceBNe, Int.reduceBEq, Bool.true_beq, Bool.false_beq, Vm.S, Nat.reduceLeDiff, q70]
          refine idx_map alAv l i hlt ?_
          simp only [hx, alAv, alCells]
          simp -dsimp only [Vm.E, List.lookup, Nat.reduceAdd, Nat.reduceBEq, Int.reduceBNe, Int.reduceBEq, Bool.true_beq, Bool.false_beq, Vm.S, Nat.reduceLeDiff, q70, AV.cells]
          refine idx_map alAv l' i hlt' ?_
          simp only [hy, alAv, alCells]
          simp -dsimp only [Vm.E, List.lookup, Nat.reduceAdd, Nat.reduceBEq, Int.reduceBNe, Int.reduceBEq, Bool.true_beq, Bool.false_beq, Vm.S, Nat.reduceLeDiff, q70, AV.cells]
          refine eq_agg fd35 rfl ?_
          simp -dsimp only [Vm.E, List.lookup, Nat.reduceAdd, Nat.reduceBEq, Int.reduceBNe, Int.reduceBEq, Bool.true_beq, Bool.false_beq, Vm.S, Nat.reduceLeDiff, q70]
          refine ⟨⟨_, alEq x y, rfl⟩, ?_⟩
          repeat' first | rfl | exact True.intro | refine And.intro ?_ ?_
        · rintro s hx2 ⟨rfl, ⟨b, hbe, e24⟩, e0, e1, e12, e13⟩
          cases b
          · have hne : ¬ l = l' := fun e => by
              have : x = y := by subst e; rw [← hx, ← hy]
              have := hbe.2 this
              cases this
            simp -dsimp only [Vm.E, List.lookup, Nat.reduceAdd, Nat.reduceBEq, Int.reduceBNe, Int.reduceBEq, Bool.true_beq, Bool.false_beq, Vm.S, Nat.reduceLeDiff, q70, e24, e0, e1, e12, e13]
            exact hq false ⟨fun h => (by cases h), fun h => (hne h).elim⟩
          · have he := hbe.1 rfl
            simp -dsimp only [Vm.E, List.lookup, Nat.reduceAdd, Nat.reduceBEq, Int.reduceBNe, Int.reduceBEq, Bool.true_beq, Bool.false_beq, Vm.S, Nat.reduceLeDiff, q70, e24, e0, e1, e12, e13]
            refine kept_intro ⟨l.length - (i + 1), by omega, _, le_mk [(0, .sl 6 (l.map alAv)), (1, .sl 6 (l'.map alAv)), (12, .v (.int .i64 l.length)), (13, .v (.int .i64 (i + 1 : Nat)))] ?_, i + 1, by omega, rfl, fun j hj hj2 => ?_, rfl⟩
            · simp only [List.forall_mem_cons, List.not_mem_nil, false_imp_iff, implies_true, and_true, hw, e24, e0, e1, e12, e13]
              try simp -dsimp only [Vm.E, List.lookup, Nat.reduceAdd, Nat.reduceBEq, Int.reduceBNe, Int.reduceBEq, Bool.true_beq, Bool.false_beq, Vm.S, Nat.reduceLeDiff, q70, hw, e24, e0, e1, e12, e13]
              repeat' first | exact Fg.refl _ | exact Fg.nil _ _ _ (by decide) | refine And.intro ?_ ?_
            · by_cases hji : j = i
              · subst hji; rw [hx, hy]; exact he
              · exact hb j hj (by omega)
      · have hge : ¬ i < l.length := by have := of_decide_eq_false hcc; omega
        have he : l = l' := List.ext_getElem hlen fun j h1 h2 => hb j h1 (by omega)
        simp -dsimp only [Vm.E, List.lookup, Nat.reduceAdd, Nat.reduceBEq, Int.reduceBNe, Int.reduceBEq, Bool.true_beq, Bool.false_beq, Vm.S, Nat.reduceLeDiff, q70]
        exact hq true ⟨fun _ => he, fun _ => rfl⟩
  · have c1 : ((l.length : Int) != l'.length) = true := by simp; omega
    simp -dsimp only [Vm.E, List.lookup, Nat.reduceAdd, Nat.reduceBEq, Int.reduceBNe, Int.reduceBEq, Bool.true_beq, Bool.false_beq, Vm.S, Nat.reduceLeDiff, q70, c1]
    exact hq false ⟨fun h => (by cases h), fun h => (hlen (by rw [h])).elim⟩
/-- The sum of lines that stand at the top. -/
def addL (t x : Al) : Al := if x.level ≠ 0 then t else { t with node := w64 (t.node + 1), limit := w64 (t.limit + x.limit), used := w64 (t.used + x.used), left := w64 (t.left + x.left) }
def Al.zero : Al := ⟨0, 0, 0, 0, 0, 0⟩
def totalOf (l : List Al) : Al := { l.foldl addL .zero with share := shareOf (l.foldl addL .zero).used (l.foldl addL .zero).limit }
def totalSpec : Vm.Spec := fun args h Q => ∃ l : List Al, l.length ≤ 9223372036854775807 ∧ args = [.sl 6 (l.map alAv)] ∧ Q (.agg (alCells (totalOf l))) h
set_option maxRecDepth 20000 in
set_option maxHeartbeats 2000000 in
theorem does_total : Does Tryz.prog 25 totalSpec := by
  refine does_of_awp (good_cons does_share good_nil) Tryz.func25 rfl (by decide +kernel) (by decide +kernel) ?_
  rintro args h Q ⟨l, hl, rfl, hq⟩
  refine ⟨by simp [Tryz.f25], ?_⟩
  rw [awpFunc_some (by rfl)]
  unfold totalOf at hq
  simp -dsimp only [Vm.E, List.lookup, Nat.reduceAdd, Nat.reduceBEq, Int.reduceBNe, Int.reduceBEq, Bool.true_beq, Bool.false_beq, Vm.S, Nat.reduceLeDiff, q25]
  refine awp_loop (fun m s h' => ∃ (i : Nat) (t : Al), i + m = l.length ∧ h' = h ∧ t = (l.take i).foldl addL .zero ∧ s = mk [(2, .box [.v (.int .i64 0), .v (.int .i64 0), .v (.int .i64 0), .v (.int .i64 0), .v (.int .i64 0), .v (.int .i64 0)]), (3, .box [.v (.int .i64 (t).node), .v (.int .i64 (t).level), .v (.int .i64 (t).limit), .v (.int .i64 (t).used), .v (.int .i64 (t).left), .v (.int .i64 (t).share)]), (6, .sl 6 (l.map alAv)), (7, .v (.int .i64 l.length)), (8, .v (.int .i64 (i : Nat)))])
    l.length _ (le_mk _ ?_) ⟨0, .zero, by omega, rfl, rfl, rfl⟩ ?_
  · simp only [List.forall_mem_cons, List.not_mem_nil, false_imp_iff, implies_true, and_true, Al.zero]
    try simp -dsimp only [Vm.E, List.lookup, Nat.reduceAdd, Nat.reduceBEq, Int.reduceBNe, Int.reduceBEq, Bool.true_beq, Bool.false_beq, Vm.S, Nat.reduceLeDiff, q25, Al.zero]
    repeat' first | exact Fg.refl _ | exact Fg.nil _ _ _ (by decide) | refine And.intro ?_ ?_
  · rintro m s h' ⟨i, t, hi, rfl, ht, rfl⟩
    simp -dsimp only [Vm.E, List.lookup, Nat.reduceAdd, Nat.reduceBEq, Int.reduceBNe, Int.reduceBEq, Bool.true_beq, Bool.false_beq, Vm.S, Nat.reduceLeDiff, q25]
    refine cond_intro (fun hcc => ?_) (fun hcc => ?_)
    · have hlt : i < l.length := by have := of_decide_eq_true hcc; omega
      have hw : IntKind.i64.wrap ((i : Int) + 1) = ((i + 1 : Nat) : Int) := by rw [wrap_i64 (by omega) (by omega)]; simp
      have hxe : ∃ x, l[i] = x := ⟨_, rfl⟩
      rcases hxe with ⟨x, hx⟩
      have est : (l.take (i + 1)).foldl addL .zero = addL t x := by rw [List.take_succ_eq_append_getElem hlt, List.foldl_append, ← ht, hx]; rfl
      simp -dsimp only [Vm.E, List.lookup, Nat.reduceAdd, Nat.reduceBEq, Int.reduceBNe, Int.reduceBEq, Bool.true_beq, Bool.false_beq, Vm.S, Nat.reduceLeDiff, q25]
      refine idx_map alAv l i hlt ?_
      simp only [hx, alAv, alCells]
      simp -dsimp only [Vm.E, List.lookup, Nat.reduceAdd, Nat.reduceBEq, Int.reduceBNe, Int.reduceBEq, Bool.true_beq, Bool.false_beq, Vm.S, Nat.reduceLeDiff, q25, AV.cells]
      have hd := Bool.eq_false_or_eq_true (x.level != 0)
      rcases hd with c | c
      · have hadd : addL t x = t := by unfold addL; rw [if_pos (by simpa using c)]
        rw [hadd] at est
        simp -dsimp only [Vm.E, List.lookup, Nat.reduceAdd, Nat.reduceBEq, Int.reduceBNe, Int.reduceBEq, Bool.true_beq, Bool.false_beq, Vm.S, Nat.reduceLeDiff, q25, c]
        refine kept_intro ⟨l.length - (i + 1), by omega, _, le_mk [(2, .box [.v (.int .i64 0), .v (.int .i64 0), .v (.int .i64 0), .v (.int .i64 0), .v (.int .i64 0), .v (.int .i64 0)]), (3, .box [.v (.int .i64 (t).node), .v (.int .i64 (t).level), .v (.int .i64 (t).limit), .v (.int .i64 (t).used), .v (.int .i64 (t).left), .v (.int .i64 (t).share)]), (6, .sl 6 (l.map alAv)), (7, .v (.int .i64 l.length)), (8, .v (.int .i64 (i + 1 : Nat)))] ?_, i + 1, t, by omega, rfl, est.symm, rfl⟩
        simp only [List.forall_mem_cons, List.not_mem_nil, false_imp_iff, implies_true, and_true, hw]
        try simp -dsimp only [Vm.E, List.lookup, Nat.reduceAdd, Nat.reduceBEq, Int.reduceBNe, Int.reduceBEq, Bool.true_beq, Bool.false_beq, Vm.S, Nat.reduceLeDiff, q25, hw]
        repeat' first | exact Fg.refl _ | exact Fg.nil _ _ _ (by decide) | refine And.intro ?_ ?_
      · have hadd : addL t x = { t with node := w64 (t.node + 1), limit := w64 (t.limit + x.limit), used := w64 (t.used + x.used), left := w64 (t.left + x.left) } := by unfold addL; rw [if_neg (by simpa using c)]
        rw [hadd] at est
        simp -dsimp only [Vm.E, List.lookup, Nat.reduceAdd, Nat.reduceBEq, Int.reduceBNe, Int.reduceBEq, Bool.true_beq, Bool.false_beq, Vm.S, Nat.reduceLeDiff, q25, c]
        refine kept_intro ⟨l.length - (i + 1), by omega, _, le_mk [(2, .box [.v (.int .i64 0), .v (.int .i64 0), .v (.int .i64 0), .v (.int .i64 0), .v (.int .i64 0), .v (.int .i64 0)]), (3, .box [.v (.int .i64 (({ t with node := w64 (t.node + 1), limit := w64 (t.limit + x.limit), used := w64 (t.used + x.used), left := w64 (t.left + x.left) } : Al)).node), .v (.int .i64 (({ t with node := w64 (t.node + 1), limit := w64 (t.limit + x.limit), used := w64 (t.used + x.used), left := w64 (t.left + x.left) } : Al)).level), .v (.int .i64 (({ t with node := w64 (t.node + 1), limit := w64 (t.limit + x.limit), used := w64 (t.used + x.used), left := w64 (t.left + x.left) } : Al)).limit), .v (.int .i64 (({ t with node := w64 (t.node + 1), limit := w64 (t.limit + x.limit), used := w64 (t.used + x.used), left := w64 (t.left + x.left) } : Al)).used), .v (.int .i64 (({ t with node := w64 (t.node + 1), limit := w64 (t.limit + x.limit), used := w64 (t.used + x.used), left := w64 (t.left + x.left) } : Al)).left), .v (.int .i64 (({ t with node := w64 (t.node + 1), limit := w64 (t.limit + x.limit), used := w64 (t.used + x.used), left := w64 (t.left + x.left) } : Al)).share)]), (6, .sl 6 (l.map alAv)), (7, .v (.int .i64 l.length)), (8, .v (.int .i64 (i + 1 : Nat)))] ?_, i + 1, _, by omega, rfl, est.symm, rfl⟩
        simp only [List.forall_mem_cons, List.not_mem_nil, false_imp_iff, implies_true, and_true, hw]
        try simp -dsimp only [Vm.E, List.lookup, Nat.reduceAdd, Nat.reduceBEq, Int.reduceBNe, Int.reduceBEq, Bool.true_beq, Bool.false_beq, Vm.S, Nat.reduceLeDiff, q25, hw]
        repeat' first | exact Fg.refl _ | exact Fg.nil _ _ _ (by decide) | refine And.intro ?_ ?_
    · have hge : ¬ i < l.length := by have := of_decide_eq_false hcc; omega
      rw [List.take_of_length_le (by omega)] at ht
      rw [← ht] at hq
      simp only [alCells] at hq
      simp -dsimp only [Vm.E, List.lookup, Nat.reduceAdd, Nat.reduceBEq, Int.reduceBNe, Int.reduceBEq, Bool.true_beq, Bool.false_beq, Vm.S, Nat.reduceLeDiff, q25]
      refine call_one (S := shareSpec) rfl _ GaL.rfl ⟨t.used, t.limit, rfl, ?_⟩
      simp -dsimp only [Vm.E, List.lookup, Nat.reduceAdd, Nat.reduceBEq, Int.reduceBNe, Int.reduceBEq, Bool.true_beq, Bool.false_beq, Vm.S, Nat.reduceLeDiff, q25]
      exact hq
end Go.Proofs.Lx
/- The law ActualBeyond. -/
set_option linter.unusedSimpArgs false
set_option linter.unusedVariables false
namespace Go.Proofs.Lx
open Go.Vm
attribute [local irreducible] awpArr awpBin awpMake awpAppend awpCvX awpStrOf awpBinX awpSlice awpBS awpStore awpAlloc awpCopy awpIndex awpDraw awpIdxX awpFa awpField awpLookup awpUpdate awpDelete awpClear awpRange awpNext awpEntry awpBuild awpClearS awpIdxL awpTree appB awpIdxO eltA treeA
def nb1 : Nd := { Nd.zero with year := 2020, id := 1, limit := 8, pre := 2 }
def nbF : Fun := upd noF (ndK nb1) (some (ndV nb1))
def nbL : List KV := tput (ndK nb1) (ndV nb1) []
theorem nbT : TabIs nbF nbL := TabIs.new.put _ _
theorem nb1_ok : nb1.ok := by simp [Nd.ok, nb1, Nd.zero, I64]
def al1 : Al := ⟨1, 0, 8, 2, 6, 2500⟩
theorem nb_lines : (allN 2020 (nbL.filter fun p => (keyOf 78 [2020]).isPrefixOf p.1)).map (alOf nbF 2020) = [al1] := by kernel_rfl
theorem al1_total : (totalOf [al1]).node = 1 := by kernel_rfl
set_option maxRecDepth 20000 in
set_option maxHeartbeats 1000000 in
theorem does_law50awake : Does Tryz.prog 11 trueSpec := by
  refine does_of_awp (good_cons does_vnewA (good_cons does_tput (good_cons does_alines (good_cons does_share (good_cons does_eqAl (good_cons does_total good_nil)))))) Tryz.func11 rfl (by decide +kernel) (by decide +kernel) ?_
  rintro args h Q ⟨rfl, hq⟩
  refine ⟨by simp [Tryz.f11], ?_⟩
  rw [awpFunc_some (by rfl)]
  simp -dsimp only [Vm.E, List.lookup, Nat.reduceAdd, Nat.reduceBEq, Int.reduceBNe, Int.reduceBEq, Bool.true_beq, Bool.false_beq, Vm.S, Nat.reduceLeDiff, q11]
  refine call_one (S := vnewASpec) rfl _ GaL.rfl ⟨rfl, fun V h0 hV => ?_⟩
  simp -dsimp only [Vm.E, List.lookup, Nat.reduceAdd, Nat.reduceBEq, Int.reduceBNe, Int.reduceBEq, Bool.true_beq, Bool.false_beq, Vm.S, Nat.reduceLeDiff, q11]
  refine call_one (S := tputSpec) rfl _ GaL.rfl ⟨V, _, nb1, rfl, nb1_ok, hV, fun h1 hV1 _ => ?_⟩
  simp -dsimp only [Vm.E, List.lookup, Nat.reduceAdd, Nat.reduceBEq, Int.reduceBNe, Int.reduceBEq, Bool.true_beq, Bool.false_beq, Vm.S, Nat.reduceLeDiff, q11]
  refine call_one (S := alinesSpec) rfl _ GaL.rfl ⟨V, nbF, 2020, rfl, hV1, by decide, fun l h3 hsc _ hV3 _ => ?_⟩
  rw [hsc.same (nbT.scan _), nb_lines]
  simp -dsimp only [Vm.E, List.lookup, Nat.reduceAdd, Nat.reduceBEq, Int.reduceBNe, Int.reduceBEq, Bool.true_beq, Bool.false_beq, Vm.S, Nat.reduceLeDiff, q11, List.map_cons, List.map_nil]
  refine nil_pointer Tryz.underlying24 ?_
  have hs : shareOf 1 4 = 2500 := by decide
  simp -dsimp only [Vm.E, List.lookup, Nat.reduceAdd, Nat.reduceBEq, Int.reduceBNe, Int.reduceBEq, Bool.true_beq, Bool.false_beq, Vm.S, Nat.reduceLeDiff, q11]
  refine call_one (S := shareSpec) rfl _ GaL.rfl ⟨1, 4, rfl, ?_⟩
  rw [hs]
  simp -dsimp only [Vm.E, List.lookup, Nat.reduceAdd, Nat.reduceBEq, Int.reduceBNe, Int.reduceBEq, Bool.true_beq, Bool.false_beq, Vm.S, Nat.reduceLeDiff, q11]
  refine bs_intro zr35 (by decide) (by decide) rfl rfl (by simp [solid, AV.cells]) ?_
  simp -dsimp only [Vm.E, List.lookup, Nat.reduceAdd, Nat.reduceBEq, Int.reduceBNe, Int.reduceBEq, Bool.true_beq, Bool.false_beq, Vm.S, Nat.reduceLeDiff, q11]
  refine call_one (S := eqSpecAl) rfl _ GaL.rfl ⟨[al1], [al1], by simp, rfl, fun b hb => ?_⟩
  have hb : b = true := hb.2 rfl
  subst hb
  simp -dsimp only [Vm.E, List.lookup, Nat.reduceAdd, Nat.reduceBEq, Int.reduceBNe, Int.reduceBEq, Bool.true_beq, Bool.false_beq, Vm.S, Nat.reduceLeDiff, q11]
  refine call_one (S := totalSpec) rfl _ GaL.rfl ⟨[al1], by simp, rfl, ?_⟩
  have ht := al1_total
  generalize totalOf [al1] = t at ht ⊢
  simp only [alCells, ht]
  simp -dsimp only [Vm.E, List.lookup, Nat.reduceAdd, Nat.reduceBEq, Int.reduceBNe, Int.reduceBEq, Bool.true_beq, Bool.false_beq, Vm.S, Nat.reduceLeDiff, q11]
  exact hq _
/-- A node whose numbers are small. -/
def Low (m : Nd) : Prop := m.ok ∧ m.year = 2020 ∧ (0 ≤ m.limit ∧ m.limit ≤ 1099511627775) ∧ (0 ≤ m.pre ∧ m.pre ≤ 1099511627775) ∧ (0 ≤ m.enc ∧ m.enc ≤ 1099511627775) ∧ (0 ≤ m.exp ∧ m.exp ≤ 1099511627775)
def AllLow (f : Fun) : Prop := ∀ k v, f k = some v → ∃ m, Low m ∧ k = ndK m ∧ v = ndV m
theorem AllLow.new : AllLow noF := fun k v h => by cases h
theorem AllLow.put {f : Fun} (h : AllLow f) {m : Nd} (hm : Low m) : AllLow (upd f (ndK m) (some (ndV m))) := fun k v hk => by
  rw [upd_app] at hk
  split at hk
  · rename_i e; cases hk; exact ⟨m, hm, e, rfl⟩
  · exact h k v hk
end Go.Proofs.Lx
/- The law TreeTells. -/
set_option linter.unusedSimpArgs false
set_option linter.unusedVariables false
namespace Go.Proofs.Lx
open Go.Vm
attribute [local irreducible] awpArr awpBin awpMake awpAppend awpCvX awpStrOf awpBinX awpSlice awpBS awpStore awpAlloc awpCopy awpIndex awpDraw awpIdxX awpFa awpField awpLookup awpUpdate awpDelete awpClear awpRange awpNext awpEntry awpBuild awpClearS awpIdxL awpTree appB awpIdxO eltA treeA
end Go.Proofs.Lx
/- What was used, the reference's: ref50; the law ActualTells. -/
set_option linter.unusedSimpArgs false
set_option linter.unusedVariables false
namespace Go.Proofs.Lx
open Go.Vm
attribute [local irreducible] awpArr awpBin awpMake awpAppend awpCvX awpStrOf awpBinX awpSlice awpBS awpStore awpAlloc awpCopy awpIndex awpDraw awpIdxX awpFa awpField awpLookup awpUpdate awpDelete awpClear awpRange awpNext awpEntry awpBuild awpClearS awpIdxL awpTree appB awpIdxO eltA treeA
def ralinesSpec : Vm.Spec := fun args h Q => ∃ (R : RId) (f : Fun) (year : Int), args = [.ptr R.iv 0, .v (.int .i64 year)] ∧ isRef h R f ∧ f.n ≤ 536870912 ∧
  ∀ l, ScanIs f (keyOf 78 [year]) l → l.length ≤ f.n → Q (.own true 42 6 (((allN year l).map (alOf f year)).map alAv)) h
set_option maxRecDepth 20000 in
set_option maxHeartbeats 2000000 in
theorem does_ralines : Does Tryz.prog 20 ralinesSpec := by
  refine does_of_awp (good_cons does_rtAll (good_cons does_rtUsed (good_cons does_rtPath (good_cons does_rShare good_nil)))) Tryz.func20 rfl (by decide +kernel) (by decide +kernel) ?_
  rintro args h Q ⟨R, f, year, rfl, hR, hn, hq⟩
  refine ⟨by simp [Tryz.f20], ?_⟩
  rw [awpFunc_some (by rfl)]
  simp -dsimp only [Vm.E, List.lookup, Nat.reduceAdd, Nat.reduceBEq, Int.reduceBNe, Int.reduceBEq, Bool.true_beq, Bool.false_beq, Vm.S, Nat.reduceLeDiff, q20]
  refine call_one (S := rtAllSpec) rfl _ GaL.rfl ⟨R, f, year, rfl, hR, hn, fun l hsc hln => ?_⟩
  have hq := hq l hsc hln
  have hnl := allN_length year l
  generalize allN year l = ns at hq hnl ⊢
  simp -dsimp only [Vm.E, List.lookup, Nat.reduceAdd, Nat.reduceBEq, Int.reduceBNe, Int.reduceBEq, Bool.true_beq, Bool.false_beq, Vm.S, Nat.reduceLeDiff, q20]
  refine awp_loop (fun m s h' => ∃ i : Nat, i + m = ns.length ∧ h' = h ∧ s = mk [(0, .ptr R.iv 0), (1, .v (.int .i64 year)), (5, .own true 42 6 (((ns.take (i)).map (alOf f year)).map alAv)), (6, .own true 27 12 (ns.map ndAv)), (7, .v (.int .i64 (i : Nat)))])
    ns.length _ (le_mk _ ?_) ⟨0, by omega, rfl, rfl⟩ ?_
  · simp only [List.forall_mem_cons, List.not_mem_nil, false_imp_iff, implies_true, and_true]
    try simp -dsimp only [Vm.E, List.lookup, Nat.reduceAdd, Nat.reduceBEq, Int.reduceBNe, Int.reduceBEq, Bool.true_beq, Bool.false_beq, Vm.S, Nat.reduceLeDiff, q20]
    repeat' first | exact Fg.refl _ | exact Fg.nil _ _ _ (by decide) | refine And.intro ?_ ?_
  · rintro m s h' ⟨i, hi, rfl, rfl⟩
    simp -dsimp only [Vm.E, List.lookup, Nat.reduceAdd, Nat.reduceBEq, Int.reduceBNe, Int.reduceBEq, Bool.true_beq, Bool.false_beq, Vm.S, Nat.reduceLeDiff, q20, List.length_map]
    refine cond_intro (fun hcc => ?_) (fun hcc => ?_)
    · have hlt : i < ns.length := by have := of_decide_eq_true hcc; omega
      have hw : IntKind.i64.wrap ((i : Int) + 1) = ((i + 1 : Nat) : Int) := by rw [wrap_i64 (by omega) (by omega)]; simp
      have hget : (ns.map ndAv)[i]? = some (ndAv ns[i]) := by simp [hlt]
      have htk : ns.take (i + 1) = ns.take i ++ [ns[i]] := List.take_succ_eq_append_getElem hlt
      generalize ns[i] = n at hget htk
      simp -dsimp only [Vm.E, List.lookup, Nat.reduceAdd, Nat.reduceBEq, Int.reduceBNe, Int.reduceBEq, Bool.true_beq, Bool.false_beq, Vm.S, Nat.reduceLeDiff, q20]
      refine idxO_intro (by omega) (by simp; omega) ?_
      simp -dsimp only [Vm.E, List.lookup, Nat.reduceAdd, Nat.reduceBEq, Int.reduceBNe, Int.reduceBEq, Bool.true_beq, Bool.false_beq, Vm.S, Nat.reduceLeDiff, q20, Int.toNat_natCast]
      refine eltA_intro hget ?_
      simp only [ndAv, ndCells]
      simp -dsimp only [Vm.E, List.lookup, Nat.reduceAdd, Nat.reduceBEq, Int.reduceBNe, Int.reduceBEq, Bool.true_beq, Bool.false_beq, Vm.S, Nat.reduceLeDiff, q20, AV.cells, List.drop_zero]
      refine call_one (S := usedSpec) rfl _ GaL.rfl ⟨n, rfl, ?_⟩
      have hal : alAv (alOf f year n) = .agg [.v (.int .i64 n.id), .v (.int .i64 (w64 ((pathOf f year 8 n.id).length - 1))), .v (.int .i64 n.limit), .v (.int .i64 (usedOf n)), .v (.int .i64 (w64 (n.limit - usedOf n))), .v (.int .i64 (shareOf (usedOf n) n.limit))] := rfl
      have hfin : ((ns.take i).map (alOf f year)).map alAv ++ [alAv (alOf f year n)] = ((ns.take (i + 1)).map (alOf f year)).map alAv := by rw [htk]; simp
      rw [hal] at hfin
      clear hal
      generalize hp : pathOf f year 8 n.id = p at hfin
      generalize usedOf n = u at hfin ⊢
      simp -dsimp only [Vm.E, List.lookup, Nat.reduceAdd, Nat.reduceBEq, Int.reduceBNe, Int.reduceBEq, Bool.true_beq, Bool.false_beq, Vm.S, Nat.reduceLeDiff, q20]
      refine draw_cont [8] (.take 0 (.take 1 (.take 2 (.take 3 (.take 4 (.take 5 (.take 6 (.take 10 (.take 11 (.take 12 (.take 13 (.take 14 (.take 15 (.take 16 (.take 17 (.take 18 (.take 19 (.alt 7 (.take 8 (.take 9 (.alt 20 (.alt 21 (.alt 22 (.alt 23 (.alt 24 (.done) .stop) .stop) .stop) .stop) .stop))) .stop)))))))))))))))))) (fun s h2 => h2 = h' ∧ s 5 = .own true 42 6 (((ns.take (i + 1)).map (alOf f year)).map alAv) ∧ s 0 = .ptr R.iv 0 ∧ s 1 = .v (.int .i64 year) ∧ s 6 = .own true 27 12 (ns.map ndAv) ∧ s 7 = .v (.int .i64 i)) (by kernel_rfl) (by kernel_rfl) (by kernel_rfl) (by decide) ?_ ?_
      · clear hq
        repeat' first
          | with_reducible exact True.intro
          | refine call_one (S := rtPathSpec) rfl _ GaL.rfl ⟨R, f, year, n.id, rfl, hR, hn, ?_⟩
          | refine call_one (S := shareSpec) rfl _ GaL.rfl ⟨u, n.limit, rfl, ?_⟩
          | refine bs_intro zr42 (by decide) (by decide) rfl rfl (by simp [solid, AV.cells]) ?_
          | refine app_sl Tryz.underlying41 (by simp [AV.cells]) (by simp only [List.length_map, List.length_cons, List.length_nil, List.length_take]; omega) ?_
          | simp -dsimp only [Vm.E, List.lookup, Nat.reduceAdd, Nat.reduceBEq, Int.reduceBNe, Int.reduceBEq, Bool.true_beq, Bool.false_beq, Vm.S, Nat.reduceLeDiff, q20, List.length_map, hp, hfin]
          | refine tree_alt ?_ ?_
          | repeat' first | rfl | exact True.intro | refine And.intro ?_ ?_
      · rintro s h2 ⟨rfl, e5, e0, e1, e6, e7⟩
        simp -dsimp only [Vm.E, List.lookup, Nat.reduceAdd, Nat.reduceBEq, Int.reduceBNe, Int.reduceBEq, Bool.true_beq, Bool.false_beq, Vm.S, Nat.reduceLeDiff, q20, e5, e0, e1, e6, e7]
        refine kept_intro ⟨ns.length - (i + 1), by omega, _, le_mk [(0, .ptr R.iv 0), (1, .v (.int .i64 year)), (5, .own true 42 6 (((ns.take (i + 1)).map (alOf f year)).map alAv)), (6, .own true 27 12 (ns.map ndAv)), (7, .v (.int .i64 (i + 1 : Nat)))] ?_, i + 1, by omega, rfl, rfl⟩
        simp only [List.forall_mem_cons, List.not_mem_nil, false_imp_iff, implies_true, and_true, hw, e5, e0, e1, e6, e7]
        try simp -dsimp only [Vm.E, List.lookup, Nat.reduceAdd, Nat.reduceBEq, Int.reduceBNe, Int.reduceBEq, Bool.true_beq, Bool.false_beq, Vm.S, Nat.reduceLeDiff, q20, hw, e5, e0, e1, e6, e7]
        repeat' first | exact Fg.refl _ | exact Fg.nil _ _ _ (by decide) | refine And.intro ?_ ?_
    · have hge : ¬ i < ns.length := by have := of_decide_eq_false hcc; omega
      simp -dsimp only [Vm.E, List.lookup, Nat.reduceAdd, Nat.reduceBEq, Int.reduceBNe, Int.reduceBEq, Bool.true_beq, Bool.false_beq, Vm.S, Nat.reduceLeDiff, q20]
      rw [List.take_of_length_le (by omega)]
      exact hq
def rbeyondSpec : Vm.Spec := fun args h Q => ∃ (R : RId) (f : Fun) (year : Int), args = [.ptr R.iv 0, .v (.int .i64 year)] ∧ isRef h R f ∧ f.n ≤ 536870912 ∧
  ∀ l, ScanIs f (keyOf 78 [year]) l → l.length ≤ f.n → Q (.own true 3 1 (((allN year l).filterMap beyOf).map encI)) h
set_option maxRecDepth 20000 in
set_option maxHeartbeats 2000000 in
theorem does_rbeyond : Does Tryz.prog 22 rbeyondSpec := by
  refine does_of_awp (good_cons does_rtAll (good_cons does_rtUsed good_nil)) Tryz.func22 rfl (by decide +kernel) (by decide +kernel) ?_
  rintro args h Q ⟨R, f, year, rfl, hR, hn, hq⟩
  refine ⟨by simp [Tryz.f22], ?_⟩
  rw [awpFunc_some (by rfl)]
  simp -dsimp only [Vm.E, List.lookup, Nat.reduceAdd, Nat.reduceBEq, Int.reduceBNe, Int.reduceBEq, Bool.true_beq, Bool.false_beq, Vm.S, Nat.reduceLeDiff, q22]
  refine call_one (S := rtAllSpec) rfl _ GaL.rfl ⟨R, f, year, rfl, hR, hn, fun l hsc hln => ?_⟩
  have hq := hq l hsc hln
  have hnl := allN_length year l
  generalize allN year l = ns at hq hnl ⊢
  simp -dsimp only [Vm.E, List.lookup, Nat.reduceAdd, Nat.reduceBEq, Int.reduceBNe, Int.reduceBEq, Bool.true_beq, Bool.false_beq, Vm.S, Nat.reduceLeDiff, q22]
  refine awp_loop (fun m s h' => ∃ i : Nat, i + m = ns.length ∧ h' = h ∧ s = mk [(5, .own true 3 1 (((ns.take (i)).filterMap beyOf).map encI)), (6, .own true 27 12 (ns.map ndAv)), (7, .v (.int .i64 (i : Nat)))])
    ns.length _ (le_mk _ ?_) ⟨0, by omega, rfl, rfl⟩ ?_
  · simp only [List.forall_mem_cons, List.not_mem_nil, false_imp_iff, implies_true, and_true]
    try simp -dsimp only [Vm.E, List.lookup, Nat.reduceAdd, Nat.reduceBEq, Int.reduceBNe, Int.reduceBEq, Bool.true_beq, Bool.false_beq, Vm.S, Nat.reduceLeDiff, q22]
    repeat' first | exact Fg.refl _ | exact Fg.nil _ _ _ (by decide) | refine And.intro ?_ ?_
  · rintro m s h' ⟨i, hi, rfl, rfl⟩
    simp -dsimp only [Vm.E, List.lookup, Nat.reduceAdd, Nat.reduceBEq, Int.reduceBNe, Int.reduceBEq, Bool.true_beq, Bool.false_beq, Vm.S, Nat.reduceLeDiff, q22, List.length_map]
    refine cond_intro (fun hcc => ?_) (fun hcc => ?_)
    · have hlt : i < ns.length := by have := of_decide_eq_true hcc; omega
      have hw : IntKind.i64.wrap ((i : Int) + 1) = ((i + 1 : Nat) : Int) := by rw [wrap_i64 (by omega) (by omega)]; simp
      have hget : (ns.map ndAv)[i]? = some (ndAv ns[i]) := by simp [hlt]
      have est := filterMap_step beyOf ns i hlt
      have hal : ((ns.take i).filterMap beyOf).length ≤ i := filterMap_le beyOf ns i
      generalize ns[i] = n at hget est
      have eb : beyOf n = if usedOf n > n.limit then some n.id else none := rfl
      rw [eb] at est
      simp -dsimp only [Vm.E, List.lookup, Nat.reduceAdd, Nat.reduceBEq, Int.reduceBNe, Int.reduceBEq, Bool.true_beq, Bool.false_beq, Vm.S, Nat.reduceLeDiff, q22]
      refine draw_cont [] (.take 0 (.take 1 (.take 2 (.take 5 (.take 6 (.take 7 (.take 8 (.alt 3 (.alt 4 (.alt 9 (.take 10 (.done)) .stop) (.alt 9 (.alt 4 (.take 10 (.done)) .stop) (.stop))) (.alt 9 (.alt 3 (.alt 4 (.take 10 (.done)) .stop) .stop) (.stop)))))))))) (fun s h2 => h2 = h' ∧ s 27 = .v (.bool (decide (usedOf n > n.limit))) ∧ s 5 = .own true 3 1 (((ns.take i).filterMap beyOf).map encI) ∧ s 6 = .own true 27 12 (ns.map ndAv) ∧ s 7 = .v (.int .i64 i)) (by kernel_rfl) (by kernel_rfl) (by kernel_rfl) (by decide) ?_ ?_
      · clear hq
        repeat' first
          | with_reducible exact True.intro
          | refine idxO_intro (by omega) (by simp; omega) ?_
          | refine eltA_intro hget ?_
          | refine call_one (S := usedSpec) rfl _ GaL.rfl ⟨n, rfl, ?_⟩
          | simp -dsimp only [Vm.E, List.lookup, Nat.reduceAdd, Nat.reduceBEq, Int.reduceBNe, Int.reduceBEq, Bool.true_beq, Bool.false_beq, Vm.S, Nat.reduceLeDiff, q22, Int.toNat_natCast, ndAv, ndCells, AV.cells, List.drop_zero, List.drop_succ_cons, List.length_map]
          | refine tree_alt ?_ ?_
          | repeat' first | rfl | exact True.intro | refine And.intro ?_ ?_
      · rintro s h2 ⟨rfl, e27, e5, e6, e7⟩
        have hd := Bool.eq_false_or_eq_true (decide (usedOf n > n.limit))
        rcases hd with c | c
        · have d := of_decide_eq_true c
          rw [if_pos d] at est
          rw [c] at e27
          simp -dsimp only [Vm.E, List.lookup, Nat.reduceAdd, Nat.reduceBEq, Int.reduceBNe, Int.reduceBEq, Bool.true_beq, Bool.false_beq, Vm.S, Nat.reduceLeDiff, q22, e27, e5, e6, e7]
          refine idxO_intro (by omega) (by simp; omega) ?_
          simp -dsimp only [Vm.E, List.lookup, Nat.reduceAdd, Nat.reduceBEq, Int.reduceBNe, Int.reduceBEq, Bool.true_beq, Bool.false_beq, Vm.S, Nat.reduceLeDiff, q22, e27, e5, e6, e7, Int.toNat_natCast]
          refine eltA_intro hget ?_
          simp only [ndAv, ndCells]
          simp -dsimp only [Vm.E, List.lookup, Nat.reduceAdd, Nat.reduceBEq, Int.reduceBNe, Int.reduceBEq, Bool.true_beq, Bool.false_beq, Vm.S, Nat.reduceLeDiff, q22, e27, e5, e6, e7, AV.cells, List.drop_zero, List.drop_succ_cons]
          refine bs_intro zr3 (by decide) (by decide) rfl rfl (by simp [solid, AV.cells]) ?_
          simp -dsimp only [Vm.E, List.lookup, Nat.reduceAdd, Nat.reduceBEq, Int.reduceBNe, Int.reduceBEq, Bool.true_beq, Bool.false_beq, Vm.S, Nat.reduceLeDiff, q22, e27, e5, e6, e7]
          refine app_sl Tryz.underlying30 (by simp [AV.cells]) (by simp only [List.length_map, List.length_cons, List.length_nil]; omega) ?_
          simp -dsimp only [Vm.E, List.lookup, Nat.reduceAdd, Nat.reduceBEq, Int.reduceBNe, Int.reduceBEq, Bool.true_beq, Bool.false_beq, Vm.S, Nat.reduceLeDiff, q22, e27, e5, e6, e7]
          refine kept_intro ⟨ns.length - (i + 1), by omega, _, le_mk [(5, .own true 3 1 (((ns.take (i + 1)).filterMap beyOf).map encI)), (6, .own true 27 12 (ns.map ndAv)), (7, .v (.int .i64 (i + 1 : Nat)))] ?_, i + 1, by omega, rfl, rfl⟩
          simp only [List.forall_mem_cons, List.not_mem_nil, false_imp_iff, implies_true, and_true, hw, est, e5, e6, e7, Option.toList, List.map_append, List.map_cons, List.map_nil, encI]
          try simp -dsimp only [Vm.E, List.lookup, Nat.reduceAdd, Nat.reduceBEq, Int.reduceBNe, Int.reduceBEq, Bool.true_beq, Bool.false_beq, Vm.S, Nat.reduceLeDiff, q22, hw, est, e5, e6, e7, Option.toList, List.map_append, List.map_cons, List.map_nil, encI]
          repeat' first | exact Fg.refl _ | exact Fg.nil _ _ _ (by decide) | refine And.intro ?_ ?_
        · have d := of_decide_eq_false c
          rw [if_neg d] at est
          rw [c] at e27
          simp -dsimp only [Vm.E, List.lookup, Nat.reduceAdd, Nat.reduceBEq, Int.reduceBNe, Int.reduceBEq, Bool.true_beq, Bool.false_beq, Vm.S, Nat.reduceLeDiff, q22, e27, e5, e6, e7]
          refine kept_intro ⟨ns.length - (i + 1), by omega, _, le_mk [(5, .own true 3 1 (((ns.take (i + 1)).filterMap beyOf).map encI)), (6, .own true 27 12 (ns.map ndAv)), (7, .v (.int .i64 (i + 1 : Nat)))] ?_, i + 1, by omega, rfl, rfl⟩
          simp only [List.forall_mem_cons, List.not_mem_nil, false_imp_iff, implies_true, and_true, hw, est, e5, e6, e7, Option.toList, List.append_nil]
          try simp -dsimp only [Vm.E, List.lookup, Nat.reduceAdd, Nat.reduceBEq, Int.reduceBNe, Int.reduceBEq, Bool.true_beq, Bool.false_beq, Vm.S, Nat.reduceLeDiff, q22, hw, est, e5, e6, e7, Option.toList, List.append_nil]
          repeat' first | exact Fg.refl _ | exact Fg.nil _ _ _ (by decide) | refine And.intro ?_ ?_
    · have hge : ¬ i < ns.length := by have := of_decide_eq_false hcc; omega
      simp -dsimp only [Vm.E, List.lookup, Nat.reduceAdd, Nat.reduceBEq, Int.reduceBNe, Int.reduceBEq, Bool.true_beq, Bool.false_beq, Vm.S, Nat.reduceLeDiff, q22]
      rw [List.take_of_length_le (by omega)]
      exact hq
theorem addL_top {t x : Al} (h : x.level = 0) : addL t x = { t with node := w64 (t.node + 1), limit := w64 (t.limit + x.limit), used := w64 (t.used + x.used), left := w64 (t.left + x.left) } := by unfold addL; rw [if_neg (by simp [h])]
set_option maxRecDepth 20000 in
set_option maxHeartbeats 4000000 in
theorem does_rtotal : Does Tryz.prog 26 totalSpec := by
  refine does_of_awp (good_cons does_rShare good_nil) Tryz.func26 rfl (by decide +kernel) (by decide +kernel) ?_
  rintro args h Q ⟨l, hl, rfl, hq⟩
  refine ⟨by simp [Tryz.f26], ?_⟩
  rw [awpFunc_some (by rfl)]
  unfold totalOf at hq
  simp -dsimp only [Vm.E, List.lookup, Nat.reduceAdd, Nat.reduceBEq, Int.reduceBNe, Int.reduceBEq, Bool.true_beq, Bool.false_beq, Vm.S, Nat.reduceLeDiff, q26]
  refine awp_loop (fun m s h' => ∃ (i : Nat) (t : Al), i + m = l.length ∧ h' = h ∧ t = (l.take i).foldl addL .zero ∧ s = mk [(0, .sl 6 (l.map alAv)), (2, .box [.v (.int .i64 0), .v (.int .i64 0), .v (.int .i64 0), .v (.int .i64 0), .v (.int .i64 0), .v (.int .i64 0)]), (3, .box [.v (.int .i64 (t).node), .v (.int .i64 (t).level), .v (.int .i64 (t).limit), .v (.int .i64 (t).used), .v (.int .i64 (t).left), .v (.int .i64 (t).share)]), (4, .v (.int .i64 (i : Nat)))])
    l.length _ (le_mk _ ?_) ⟨0, .zero, by omega, rfl, rfl, rfl⟩ ?_
  · simp only [List.forall_mem_cons, List.not_mem_nil, false_imp_iff, implies_true, and_true, Al.zero]
    try simp -dsimp only [Vm.E, List.lookup, Nat.reduceAdd, Nat.reduceBEq, Int.reduceBNe, Int.reduceBEq, Bool.true_beq, Bool.false_beq, Vm.S, Nat.reduceLeDiff, q26, Al.zero]
    repeat' first | exact Fg.refl _ | exact Fg.nil _ _ _ (by decide) | refine And.intro ?_ ?_
  · rintro m s h' ⟨i, t, hi, rfl, ht, rfl⟩
    simp -dsimp only [Vm.E, List.lookup, Nat.reduceAdd, Nat.reduceBEq, Int.reduceBNe, Int.reduceBEq, Bool.true_beq, Bool.false_beq, Vm.S, Nat.reduceLeDiff, q26]
    refine cond_intro (fun hcc => ?_) (fun hcc => ?_)
    · have hlt : i < l.length := by have := of_decide_eq_true hcc; omega
      have hw : IntKind.i64.wrap ((i : Int) + 1) = ((i + 1 : Nat) : Int) := by rw [wrap_i64 (by omega) (by omega)]; simp
      have hxe : ∃ x, l[i] = x := ⟨_, rfl⟩
      rcases hxe with ⟨x, hx⟩
      have est : (l.take (i + 1)).foldl addL .zero = addL t x := by rw [List.take_succ_eq_append_getElem hlt, List.foldl_append, ← ht, hx]; rfl
      simp -dsimp only [Vm.E, List.lookup, Nat.reduceAdd, Nat.reduceBEq, Int.reduceBNe, Int.reduceBEq, Bool.true_beq, Bool.false_beq, Vm.S, Nat.reduceLeDiff, q26]
      refine idx_map alAv l i hlt ?_
      simp only [hx, alAv, alCells]
      simp -dsimp only [Vm.E, List.lookup, Nat.reduceAdd, Nat.reduceBEq, Int.reduceBNe, Int.reduceBEq, Bool.true_beq, Bool.false_beq, Vm.S, Nat.reduceLeDiff, q26, AV.cells]
      have hd := Bool.eq_false_or_eq_true (x.level == 0)
      rcases hd with c | c
      · rw [addL_top (by simpa using c)] at est
        simp -dsimp only [Vm.E, List.lookup, Nat.reduceAdd, Nat.reduceBEq, Int.reduceBNe, Int.reduceBEq, Bool.true_beq, Bool.false_beq, Vm.S, Nat.reduceLeDiff, q26, c]
        refine draw_cont [] (.take 0 (.take 2 (.take 3 (.take 4 (.take 5 (.take 6 (.take 8 (.take 10 (.take 11 (.take 12 (.take 13 (.take 14 (.take 16 (.take 18 (.take 19 (.take 20 (.take 21 (.take 22 (.alt 1 (.take 7 (.alt 9 (.take 15 (.alt 17 (.take 23 (.take 24 (.alt 25 (.take 26 (.alt 27 (.take 28 (.alt 29 (.done) .stop)) .stop)) .stop))) .stop)) (.alt 17 (.take 23 (.alt 9 (.take 15 (.take 24 (.alt 25 (.take 26 (.alt 27 (.take 28 (.alt 29 (.done) .stop)) .stop)) .stop))) .stop)) (.stop)))) (.alt 9 (.take 15 (.alt 1 (.take 7 (.alt 17 (.take 23 (.take 24 (.alt 25 (.take 26 (.alt 27 (.take 28 (.alt 29 (.done) .stop)) .stop)) .stop))) .stop)) (.alt 17 (.take 23 (.alt 1 (.take 7 (.take 24 (.alt 25 (.take 26 (.alt 27 (.take 28 (.alt 29 (.done) .stop)) .stop)) .stop))) .stop)) (.stop)))) (.alt 17 (.take 23 (.alt 1 (.take 7 (.alt 9 (.take 15 (.take 24 (.alt 25 (.take 26 (.alt 27 (.take 28 (.alt 29 (.done) .stop)) .stop)) .stop))) .stop)) (.alt 9 (.take 15 (.alt 1 (.take 7 (.take 24 (.alt 25 (.take 26 (.alt 27 (.take 28 (.alt 29 (.done) .stop)) .stop)) .stop))) .stop)) (.stop)))) (.stop)))))))))))))))))))))) (fun s h2 => h2 = h' ∧ s 3 = .box [.v (.int .i64 (({ t with node := w64 (t.node + 1), limit := w64 (t.limit + x.limit), used := w64 (t.used + x.used), left := w64 (t.left + x.left) } : Al)).node), .v (.int .i64 (({ t with node := w64 (t.node + 1), limit := w64 (t.limit + x.limit), used := w64 (t.used + x.used), left := w64 (t.left + x.left) } : Al)).level), .v (.int .i64 (({ t with node := w64 (t.node + 1), limit := w64 (t.limit + x.limit), used := w64 (t.used + x.used), left := w64 (t.left + x.left) } : Al)).limit), .v (.int .i64 (({ t with node := w64 (t.node + 1), limit := w64 (t.limit + x.limit), used := w64 (t.used + x.used), left := w64 (t.left + x.left) } : Al)).used), .v (.int .i64 (({ t with node := w64 (t.node + 1), limit := w64 (t.limit + x.limit), used := w64 (t.used + x.used), left := w64 (t.left + x.left) } : Al)).left), .v (.int .i64 (({ t with node := w64 (t.node + 1), limit := w64 (t.limit + x.limit), used := w64 (t.used + x.used), left := w64 (t.left + x.left) } : Al)).share)] ∧ s 0 = .sl 6 (l.map alAv) ∧ s 2 = .box [.v (.int .i64 0), .v (.int .i64 0), .v (.int .i64 0), .v (.int .i64 0), .v (.int .i64 0), .v (.int .i64 0)] ∧ s 4 = .v (.int .i64 i)) (by kernel_rfl) (by kernel_rfl) (by kernel_rfl) (by decide) ?_ ?_
        · clear hq
          repeat' first
            | with_reducible exact True.intro
            | (refine idx_map alAv l i hlt ?_; simp only [hx, alAv, alCells])
            | simp -dsimp only [Vm.E, List.lookup, Nat.reduceAdd, Nat.reduceBEq, Int.reduceBNe, Int.reduceBEq, Bool.true_beq, Bool.false_beq, Vm.S, Nat.reduceLeDiff, q26, AV.cells]
            | refine tree_alt ?_ ?_
            | repeat' first | rfl | exact True.intro | refine And.intro ?_ ?_
        · rintro s h2 ⟨rfl, e3, e0, e2, e4⟩
          simp -dsimp only [Vm.E, List.lookup, Nat.reduceAdd, Nat.reduceBEq, Int.reduceBNe, Int.reduceBEq, Bool.true_beq, Bool.false_beq, Vm.S, Nat.reduceLeDiff, q26, e3, e0, e2, e4]
          refine kept_intro ⟨l.length - (i + 1), by omega, _, le_mk [(0, .sl 6 (l.map alAv)), (2, .box [.v (.int .i64 0), .v (.int .i64 0), .v (.int .i64 0), .v (.int .i64 0), .v (.int .i64 0), .v (.int .i64 0)]), (3, .box [.v (.int .i64 (({ t with node := w64 (t.node + 1), limit := w64 (t.limit + x.limit), used := w64 (t.used + x.used), left := w64 (t.left + x.left) } : Al)).node), .v (.int .i64 (({ t with node := w64 (t.node + 1), limit := w64 (t.limit + x.limit), used := w64 (t.used + x.used), left := w64 (t.left + x.left) } : Al)).level), .v (.int .i64 (({ t with node := w64 (t.node + 1), limit := w64 (t.limit + x.limit), used := w64 (t.used + x.used), left := w64 (t.left + x.left) } : Al)).limit), .v (.int .i64 (({ t with node := w64 (t.node + 1), limit := w64 (t.limit + x.limit), used := w64 (t.used + x.used), left := w64 (t.left + x.left) } : Al)).used), .v (.int .i64 (({ t with node := w64 (t.node + 1), limit := w64 (t.limit + x.limit), used := w64 (t.used + x.used), left := w64 (t.left + x.left) } : Al)).left), .v (.int .i64 (({ t with node := w64 (t.node + 1), limit := w64 (t.limit + x.limit), used := w64 (t.used + x.used), left := w64 (t.left + x.left) } : Al)).share)]), (4, .v (.int .i64 (i + 1 : Nat)))] ?_, i + 1, _, by omega, rfl, est.symm, rfl⟩
          simp only [List.forall_mem_cons, List.not_mem_nil, false_imp_iff, implies_true, and_true, hw, e3, e0, e2, e4]
          try simp -dsimp only [Vm.E, List.lookup, Nat.reduceAdd, Nat.reduceBEq, Int.reduceBNe, Int.reduceBEq, Bool.true_beq, Bool.false_beq, Vm.S, Nat.reduceLeDiff, q26, hw, e3, e0, e2, e4]
          repeat' first | exact Fg.refl _ | exact Fg.nil _ _ _ (by decide) | refine And.intro ?_ ?_
      · have hadd : addL t x = t := by unfold addL; rw [if_pos (by simpa using c)]
        rw [hadd] at est
        simp -dsimp only [Vm.E, List.lookup, Nat.reduceAdd, Nat.reduceBEq, Int.reduceBNe, Int.reduceBEq, Bool.true_beq, Bool.false_beq, Vm.S, Nat.reduceLeDiff, q26, c]
        refine kept_intro ⟨l.length - (i + 1), by omega, _, le_mk [(0, .sl 6 (l.map alAv)), (2, .box [.v (.int .i64 0), .v (.int .i64 0), .v (.int .i64 0), .v (.int .i64 0), .v (.int .i64 0), .v (.int .i64 0)]), (3, .box [.v (.int .i64 (t).node), .v (.int .i64 (t).level), .v (.int .i64 (t).limit), .v (.int .i64 (t).used), .v (.int .i64 (t).left), .v (.int .i64 (t).share)]), (4, .v (.int .i64 (i + 1 : Nat)))] ?_, i + 1, t, by omega, rfl, est.symm, rfl⟩
        simp only [List.forall_mem_cons, List.not_mem_nil, false_imp_iff, implies_true, and_true, hw]
        try simp -dsimp only [Vm.E, List.lookup, Nat.reduceAdd, Nat.reduceBEq, Int.reduceBNe, Int.reduceBEq, Bool.true_beq, Bool.false_beq, Vm.S, Nat.reduceLeDiff, q26, hw]
        repeat' first | exact Fg.refl _ | exact Fg.nil _ _ _ (by decide) | refine And.intro ?_ ?_
    · have hge : ¬ i < l.length := by have := of_decide_eq_false hcc; omega
      rw [List.take_of_length_le (by omega)] at ht
      rw [← ht] at hq
      simp only [alCells] at hq
      simp -dsimp only [Vm.E, List.lookup, Nat.reduceAdd, Nat.reduceBEq, Int.reduceBNe, Int.reduceBEq, Bool.true_beq, Bool.false_beq, Vm.S, Nat.reduceLeDiff, q26]
      refine call_one (S := shareSpec) rfl _ GaL.rfl ⟨t.used, t.limit, rfl, ?_⟩
      simp -dsimp only [Vm.E, List.lookup, Nat.reduceAdd, Nat.reduceBEq, Int.reduceBNe, Int.reduceBEq, Bool.true_beq, Bool.false_beq, Vm.S, Nat.reduceLeDiff, q26]
      exact hq
def alownSpec : Vm.Spec := fun args h Q => ∃ x : Al, args = [alAv x] ∧ Q (.agg (alCells x)) h
theorem does_alown : Does Tryz.prog 19 alownSpec := by
  refine does_of_awp good_nil Tryz.func19 rfl (by decide +kernel) (by decide +kernel) ?_
  rintro args h Q ⟨x, rfl, hq⟩
  refine ⟨by simp [Tryz.f19], ?_⟩
  rw [awpFunc_some (by rfl)]
  simp only [alAv, alCells] at hq ⊢
  simp -dsimp only [Vm.E, List.lookup, Nat.reduceAdd, Nat.reduceBEq, Int.reduceBNe, Int.reduceBEq, Bool.true_beq, Bool.false_beq, Vm.S, Nat.reduceLeDiff, q19]
  exact hq
end Go.Proofs.Lx
/- The law ActualTells. -/
set_option linter.unusedSimpArgs false
set_option linter.unusedVariables false
namespace Go.Proofs.Lx
open Go.Vm
attribute [local irreducible] awpArr awpBin awpMake awpAppend awpCvX awpStrOf awpBinX awpSlice awpBS awpStore awpAlloc awpCopy awpIndex awpDraw awpIdxX awpFa awpField awpLookup awpUpdate awpDelete awpClear awpRange awpNext awpEntry awpBuild awpClearS awpIdxL awpTree appB awpIdxO eltA treeA
def atellsSpec : Vm.Spec := fun args h Q => ∃ (l : List Nd) (year a b : Int) (ls : List Al), l.length ≤ 9223372036854775807 ∧ (∀ n ∈ l, n.ok) ∧ ls.length ≤ 9223372036854775807 ∧ args = [.sl 12 (l.map ndAv), .v (.int .i64 year), .v (.int .i64 a), .v (.int .i64 b), .sl 6 (ls.map alAv)] ∧ ∀ h', Q (.v (.bool true)) h'
set_option maxRecDepth 20000 in
set_option maxHeartbeats 8000000 in
theorem does_atells : Does Tryz.prog 4 atellsSpec := by
  refine does_of_awp (good_cons does_vnewA (good_cons does_rNewA (good_cons does_tput (good_cons does_rtPut (good_cons does_alown (good_cons does_alines (good_cons does_ralines (good_cons does_beyond (good_cons does_rbeyond (good_cons does_eqInt (good_cons does_share (good_cons does_rShare (good_cons does_total (good_cons does_rtotal (good_cons does_same (good_cons does_law50awake good_nil)))))))))))))))) Tryz.func4 rfl (by decide +kernel) (by decide +kernel) ?_
  rintro args h Q ⟨l, year, a, b, ls, hl, hok, hls, rfl, hq⟩
  refine ⟨by simp [Tryz.f4], ?_⟩
  rw [awpFunc_some (by rfl)]
  simp -dsimp only [Vm.E, List.lookup, Nat.reduceAdd, Nat.reduceBEq, Int.reduceBNe, Int.reduceBEq, Bool.true_beq, Bool.false_beq, Vm.S, Nat.reduceLeDiff, q4]
  cases c30 : decide ((l.length : Int) > 30)
  · have d30 := of_decide_eq_false c30
    simp -dsimp only [Vm.E, List.lookup, Nat.reduceAdd, Nat.reduceBEq, Int.reduceBNe, Int.reduceBEq, Bool.true_beq, Bool.false_beq, Vm.S, Nat.reduceLeDiff, q4]
    cases c40 : decide ((ls.length : Int) > 40)
    · have d40 := of_decide_eq_false c40
      simp -dsimp only [Vm.E, List.lookup, Nat.reduceAdd, Nat.reduceBEq, Int.reduceBNe, Int.reduceBEq, Bool.true_beq, Bool.false_beq, Vm.S, Nat.reduceLeDiff, q4]
      refine call_one (S := vnewASpec) rfl _ GaL.rfl ⟨rfl, fun V h00 hV00 => ?_⟩
      simp -dsimp only [Vm.E, List.lookup, Nat.reduceAdd, Nat.reduceBEq, Int.reduceBNe, Int.reduceBEq, Bool.true_beq, Bool.false_beq, Vm.S, Nat.reduceLeDiff, q4]
      refine call_one (S := rNewASpec) rfl _ (.cons (.nil 2) .nil) ⟨V, rfl, hV00, fun R h0 hB0 => ?_⟩
      clear hV00
      simp -dsimp only [Vm.E, List.lookup, Nat.reduceAdd, Nat.reduceBEq, Int.reduceBNe, Int.reduceBEq, Bool.true_beq, Bool.false_beq, Vm.S, Nat.reduceLeDiff, q4]
      refine awp_loop (fun m s h' => ∃ (i : Nat) (f : Fun), i + m = l.length ∧ Both h' V R f ∧ f.n ≤ i ∧ s = mk [(1, .v (.int .i64 year)), (2, .v (.int .i64 a)), (3, .v (.int .i64 b)), (4, .sl 6 (ls.map alAv)), (11, .ptr V.iv 0), (12, .ptr R.iv 0), (32, .sl 12 (l.map ndAv)), (33, .v (.int .i64 l.length)), (34, .v (.int .i64 (i : Nat)))])
        l.length _ (le_mk _ ?_) ⟨0, noF, by omega, hB0, Nat.le_refl _, rfl⟩ ?_
      · simp only [List.forall_mem_cons, List.not_mem_nil, false_imp_iff, implies_true, and_true]
        try simp -dsimp only [Vm.E, List.lookup, Nat.reduceAdd, Nat.reduceBEq, Int.reduceBNe, Int.reduceBEq, Bool.true_beq, Bool.false_beq, Vm.S, Nat.reduceLeDiff, q4]
        repeat' first | exact Fg.refl _ | exact Fg.nil _ _ _ (by decide) | refine And.intro ?_ ?_
      · clear hB0
        rintro m s h' ⟨i, f, hi, hB, hfn, rfl⟩
        simp -dsimp only [Vm.E, List.lookup, Nat.reduceAdd, Nat.reduceBEq, Int.reduceBNe, Int.reduceBEq, Bool.true_beq, Bool.false_beq, Vm.S, Nat.reduceLeDiff, q4]
        refine cond_intro (fun hcc => ?_) (fun hcc => ?_)
        · have hlt : i < l.length := by have := of_decide_eq_true hcc; omega
          have hw : IntKind.i64.wrap ((i : Int) + 1) = ((i + 1 : Nat) : Int) := by rw [wrap_i64 (by omega) (by omega)]; simp
          have ho := hok l[i] (List.getElem_mem hlt)
          simp -dsimp only [Vm.E, List.lookup, Nat.reduceAdd, Nat.reduceBEq, Int.reduceBNe, Int.reduceBEq, Bool.true_beq, Bool.false_beq, Vm.S, Nat.reduceLeDiff, q4]
          refine idx_map ndAv l i hlt ?_
          generalize l[i] = n at ho
          have hnn : (upd f (ndK n) (some (ndV n))).n = f.n + 1 := rfl
          simp only [ndAv, ndCells]
          simp -dsimp only [Vm.E, List.lookup, Nat.reduceAdd, Nat.reduceBEq, Int.reduceBNe, Int.reduceBEq, Bool.true_beq, Bool.false_beq, Vm.S, Nat.reduceLeDiff, q4, AV.cells]
          refine call_one (S := tputSpec) rfl _ GaL.rfl ⟨V, f, n, rfl, ho, hB.1, fun h2 g1 g2 => ?_⟩
          simp -dsimp only [Vm.E, List.lookup, Nat.reduceAdd, Nat.reduceBEq, Int.reduceBNe, Int.reduceBEq, Bool.true_beq, Bool.false_beq, Vm.S, Nat.reduceLeDiff, q4]
          refine call_one (S := rtPutSpec) rfl _ GaL.rfl ⟨R, f, n, rfl, ho, hB.view g1 g2, by omega, fun h3 g3 g4 => ?_⟩
          have hB2 := hB.ref g1 g3 g4
          simp -dsimp only [Vm.E, List.lookup, Nat.reduceAdd, Nat.reduceBEq, Int.reduceBNe, Int.reduceBEq, Bool.true_beq, Bool.false_beq, Vm.S, Nat.reduceLeDiff, q4]
          refine kept_intro ⟨l.length - (i + 1), by omega, _, le_mk [(1, .v (.int .i64 year)), (2, .v (.int .i64 a)), (3, .v (.int .i64 b)), (4, .sl 6 (ls.map alAv)), (11, .ptr V.iv 0), (12, .ptr R.iv 0), (32, .sl 12 (l.map ndAv)), (33, .v (.int .i64 l.length)), (34, .v (.int .i64 (i + 1 : Nat)))] ?_, i + 1, _, by omega, hB2, by omega, rfl⟩
          simp only [List.forall_mem_cons, List.not_mem_nil, false_imp_iff, implies_true, and_true, hw]
          try simp -dsimp only [Vm.E, List.lookup, Nat.reduceAdd, Nat.reduceBEq, Int.reduceBNe, Int.reduceBEq, Bool.true_beq, Bool.false_beq, Vm.S, Nat.reduceLeDiff, q4, hw]
          repeat' first | exact Fg.refl _ | exact Fg.nil _ _ _ (by decide) | refine And.intro ?_ ?_
        · have hge : ¬ i < l.length := by have := of_decide_eq_false hcc; omega
          have hf30 : f.n ≤ 30 := by omega
          clear hi hcc hge hfn
          simp -dsimp only [Vm.E, List.lookup, Nat.reduceAdd, Nat.reduceBEq, Int.reduceBNe, Int.reduceBEq, Bool.true_beq, Bool.false_beq, Vm.S, Nat.reduceLeDiff, q4]
          refine awp_loop (fun m s hx => ∃ i : Nat, i + m = ls.length ∧ hx = h' ∧ s = mk [(1, .v (.int .i64 year)), (2, .v (.int .i64 a)), (3, .v (.int .i64 b)), (4, .sl 6 (ls.map alAv)), (11, .ptr V.iv 0), (12, .ptr R.iv 0), (15, .own true 42 6 ((ls.take (i)).map alAv)), (45, .sl 6 (ls.map alAv)), (46, .v (.int .i64 ls.length)), (47, .v (.int .i64 (i : Nat)))])
            ls.length _ (le_mk _ ?_) ⟨0, by omega, rfl, rfl⟩ ?_
          · simp only [List.forall_mem_cons, List.not_mem_nil, false_imp_iff, implies_true, and_true]
            try simp -dsimp only [Vm.E, List.lookup, Nat.reduceAdd, Nat.reduceBEq, Int.reduceBNe, Int.reduceBEq, Bool.true_beq, Bool.false_beq, Vm.S, Nat.reduceLeDiff, q4]
            repeat' first | exact Fg.refl _ | exact Fg.nil _ _ _ (by decide) | refine And.intro ?_ ?_
          · rintro m s hx ⟨i, hi, rfl, rfl⟩
            simp -dsimp only [Vm.E, List.lookup, Nat.reduceAdd, Nat.reduceBEq, Int.reduceBNe, Int.reduceBEq, Bool.true_beq, Bool.false_beq, Vm.S, Nat.reduceLeDiff, q4]
            refine cond_intro (fun hcc => ?_) (fun hcc => ?_)
            · have hlt : i < ls.length := by have := of_decide_eq_true hcc; omega
              have hw : IntKind.i64.wrap ((i : Int) + 1) = ((i + 1 : Nat) : Int) := by rw [wrap_i64 (by omega) (by omega)]; simp
              have htk : ls.take (i + 1) = ls.take i ++ [ls[i]] := List.take_succ_eq_append_getElem hlt
              simp -dsimp only [Vm.E, List.lookup, Nat.reduceAdd, Nat.reduceBEq, Int.reduceBNe, Int.reduceBEq, Bool.true_beq, Bool.false_beq, Vm.S, Nat.reduceLeDiff, q4]
              refine idx_map alAv ls i hlt ?_
              generalize ls[i] = x at htk
              simp only [alAv, alCells]
              simp -dsimp only [Vm.E, List.lookup, Nat.reduceAdd, Nat.reduceBEq, Int.reduceBNe, Int.reduceBEq, Bool.true_beq, Bool.false_beq, Vm.S, Nat.reduceLeDiff, q4, AV.cells]
              refine call_one (S := alownSpec) rfl _ GaL.rfl ⟨x, rfl, ?_⟩
              simp only [alCells]
              simp -dsimp only [Vm.E, List.lookup, Nat.reduceAdd, Nat.reduceBEq, Int.reduceBNe, Int.reduceBEq, Bool.true_beq, Bool.false_beq, Vm.S, Nat.reduceLeDiff, q4]
              refine bs_intro zr42 (by decide) (by decide) rfl rfl (by simp [solid, AV.cells]) ?_
              simp -dsimp only [Vm.E, List.lookup, Nat.reduceAdd, Nat.reduceBEq, Int.reduceBNe, Int.reduceBEq, Bool.true_beq, Bool.false_beq, Vm.S, Nat.reduceLeDiff, q4]
              refine app_sl Tryz.underlying41 (by simp [AV.cells]) (by simp only [List.length_map, List.length_cons, List.length_nil, List.length_take]; omega) ?_
              simp -dsimp only [Vm.E, List.lookup, Nat.reduceAdd, Nat.reduceBEq, Int.reduceBNe, Int.reduceBEq, Bool.true_beq, Bool.false_beq, Vm.S, Nat.reduceLeDiff, q4]
              refine kept_intro ⟨ls.length - (i + 1), by omega, _, le_mk [(1, .v (.int .i64 year)), (2, .v (.int .i64 a)), (3, .v (.int .i64 b)), (4, .sl 6 (ls.map alAv)), (11, .ptr V.iv 0), (12, .ptr R.iv 0), (15, .own true 42 6 ((ls.take (i + 1)).map alAv)), (45, .sl 6 (ls.map alAv)), (46, .v (.int .i64 ls.length)), (47, .v (.int .i64 (i + 1 : Nat)))] ?_, i + 1, by omega, rfl, rfl⟩
              simp only [List.forall_mem_cons, List.not_mem_nil, false_imp_iff, implies_true, and_true, hw, htk, List.map_append, List.map_cons, List.map_nil, alAv, alCells]
              try simp -dsimp only [Vm.E, List.lookup, Nat.reduceAdd, Nat.reduceBEq, Int.reduceBNe, Int.reduceBEq, Bool.true_beq, Bool.false_beq, Vm.S, Nat.reduceLeDiff, q4, hw, htk, List.map_append, List.map_cons, List.map_nil, alAv, alCells]
              repeat' first | exact Fg.refl _ | exact Fg.nil _ _ _ (by decide) | refine And.intro ?_ ?_
            · have hge : ¬ i < ls.length := by have := of_decide_eq_false hcc; omega
              clear hcc
              rw [List.take_of_length_le (by omega)]
              simp -dsimp only [Vm.E, List.lookup, Nat.reduceAdd, Nat.reduceBEq, Int.reduceBNe, Int.reduceBEq, Bool.true_beq, Bool.false_beq, Vm.S, Nat.reduceLeDiff, q4]
              refine call_one (S := alinesSpec) rfl _ GaL.rfl ⟨V, f, year, rfl, hB.1, by omega, fun kv h2 hsc hkl hV2 hs2 => ?_⟩
              have hB2 := hB.quiet hV2 hs2
              simp -dsimp only [Vm.E, List.lookup, Nat.reduceAdd, Nat.reduceBEq, Int.reduceBNe, Int.reduceBEq, Bool.true_beq, Bool.false_beq, Vm.S, Nat.reduceLeDiff, q4]
              refine call_one (S := ralinesSpec) rfl _ GaL.rfl ⟨R, f, year, rfl, hB2.2.1, by omega, fun kv2 hsc2 hkl2 => ?_⟩
              obtain rfl := hsc.same hsc2
              have hnl := allN_length year kv
              have hxl : ((allN year kv).map (alOf f year)).length = (allN year kv).length := List.length_map ..
              generalize (allN year kv).map (alOf f year) = xs at hxl ⊢
              simp -dsimp only [Vm.E, List.lookup, Nat.reduceAdd, Nat.reduceBEq, Int.reduceBNe, Int.reduceBEq, Bool.true_beq, Bool.false_beq, Vm.S, Nat.reduceLeDiff, q4, List.length_map, bne_self_eq_false]
              refine awp_loop (fun m s hx => ∃ i : Nat, i + m = xs.length ∧ hx = h2 ∧ s = mk [(1, .v (.int .i64 year)), (2, .v (.int .i64 a)), (3, .v (.int .i64 b)), (4, .sl 6 (ls.map alAv)), (11, .ptr V.iv 0), (12, .ptr R.iv 0), (15, .own true 42 6 (ls.map alAv)), (18, .own true 35 6 (xs.map alAv)), (19, .own true 42 6 (xs.map alAv)), (69, .v (.int .i64 xs.length)), (70, .v (.int .i64 (i : Nat)))])
                xs.length _ (le_mk _ ?_) ⟨0, by omega, rfl, rfl⟩ ?_
              · simp only [List.forall_mem_cons, List.not_mem_nil, false_imp_iff, implies_true, and_true, List.length_map]
                try simp -dsimp only [Vm.E, List.lookup, Nat.reduceAdd, Nat.reduceBEq, Int.reduceBNe, Int.reduceBEq, Bool.true_beq, Bool.false_beq, Vm.S, Nat.reduceLeDiff, q4, List.length_map]
                repeat' first | exact Fg.refl _ | exact Fg.nil _ _ _ (by decide) | refine And.intro ?_ ?_
              · clear hi hge
                rintro m s h3 ⟨i, hi, rfl, rfl⟩
                simp -dsimp only [Vm.E, List.lookup, Nat.reduceAdd, Nat.reduceBEq, Int.reduceBNe, Int.reduceBEq, Bool.true_beq, Bool.false_beq, Vm.S, Nat.reduceLeDiff, q4]
                refine cond_intro (fun hcc => ?_) (fun hcc => ?_)
                · have hlt : i < xs.length := by have := of_decide_eq_true hcc; omega
                  have hw : IntKind.i64.wrap ((i : Int) + 1) = ((i + 1 : Nat) : Int) := by rw [wrap_i64 (by omega) (by omega)]; simp
                  have hget : (xs.map alAv)[i]? = some (alAv xs[i]) := by simp [hlt]
                  generalize xs[i] = x at hget
                  simp -dsimp only [Vm.E, List.lookup, Nat.reduceAdd, Nat.reduceBEq, Int.reduceBNe, Int.reduceBEq, Bool.true_beq, Bool.false_beq, Vm.S, Nat.reduceLeDiff, q4]
                  refine draw_cont [] (.take 0 (.take 1 (.take 2 (.take 5 (.take 6 (.take 7 (.alt 3 (.alt 4 (.alt 8 (.take 9 (.done)) .stop) (.alt 8 (.alt 4 (.take 9 (.done)) .stop) (.stop))) (.alt 8 (.alt 3 (.alt 4 (.take 9 (.done)) .stop) .stop) (.stop))))))))) (fun s h2 => h2 = h3 ∧ s 82 = .v (.bool false) ∧ s 1 = .v (.int .i64 year) ∧ s 2 = .v (.int .i64 a) ∧ s 3 = .v (.int .i64 b) ∧ s 4 = .sl 6 (ls.map alAv) ∧ s 11 = .ptr V.iv 0 ∧ s 12 = .ptr R.iv 0 ∧ s 15 = .own true 42 6 (ls.map alAv) ∧ s 18 = .own true 35 6 (xs.map alAv) ∧ s 19 = .own true 42 6 (xs.map alAv) ∧ s 69 = .v (.int .i64 xs.length) ∧ s 70 = .v (.int .i64 i)) (by kernel_rfl) (by kernel_rfl) (by kernel_rfl) (by decide) ?_ ?_
                  · clear hq
                    repeat' first
                      | with_reducible exact True.intro
                      | refine idxO_intro (by omega) (by simp; omega) ?_
                      | refine eltA_intro hget ?_
                      | refine call_one (S := alownSpec) rfl _ GaL.rfl ⟨x, rfl, ?_⟩
                      | refine eq_agg fd42 rfl ?_
                      | simp -dsimp only [Vm.E, List.lookup, Nat.reduceAdd, Nat.reduceBEq, Int.reduceBNe, Int.reduceBEq, Bool.true_beq, Bool.false_beq, Vm.S, Nat.reduceLeDiff, q4, Int.toNat_natCast, alAv, alCells, AV.cells, List.drop_zero, List.length_map, Bool.true_and, Bool.and_self]
                      | refine tree_alt ?_ ?_
                      | repeat' first | rfl | exact True.intro | refine And.intro ?_ ?_
                  · rintro s h2 ⟨rfl, e82, e1, e2, e3, e4, e11, e12, e15, e18, e19, e69, e70⟩
                    simp -dsimp only [Vm.E, List.lookup, Nat.reduceAdd, Nat.reduceBEq, Int.reduceBNe, Int.reduceBEq, Bool.true_beq, Bool.false_beq, Vm.S, Nat.reduceLeDiff, q4, e82, e1, e2, e3, e4, e11, e12, e15, e18, e19, e69, e70]
                    refine kept_intro ⟨xs.length - (i + 1), by omega, _, le_mk [(1, .v (.int .i64 year)), (2, .v (.int .i64 a)), (3, .v (.int .i64 b)), (4, .sl 6 (ls.map alAv)), (11, .ptr V.iv 0), (12, .ptr R.iv 0), (15, .own true 42 6 (ls.map alAv)), (18, .own true 35 6 (xs.map alAv)), (19, .own true 42 6 (xs.map alAv)), (69, .v (.int .i64 xs.length)), (70, .v (.int .i64 (i + 1 : Nat)))] ?_, i + 1, by omega, rfl, rfl⟩
                    simp only [List.forall_mem_cons, List.not_mem_nil, false_imp_iff, implies_true, and_true, hw, e1, e2, e3, e4, e11, e12, e15, e18, e19, e69, e70]
                    try simp -dsimp only [Vm.E, List.lookup, Nat.reduceAdd, Nat.reduceBEq, Int.reduceBNe, Int.reduceBEq, Bool.true_beq, Bool.false_beq, Vm.S, Nat.reduceLeDiff, q4, hw, e1, e2, e3, e4, e11, e12, e15, e18, e19, e69, e70]
                    repeat' first | exact Fg.refl _ | exact Fg.nil _ _ _ (by decide) | refine And.intro ?_ ?_
                · clear hcc hi
                  simp -dsimp only [Vm.E, List.lookup, Nat.reduceAdd, Nat.reduceBEq, Int.reduceBNe, Int.reduceBEq, Bool.true_beq, Bool.false_beq, Vm.S, Nat.reduceLeDiff, q4]
                  refine call_one (S := beyondSpec) rfl _ GaL.rfl ⟨V, f, year, rfl, hB2.1, by omega, fun kv3 h4 hsc3 hkl3 hV4 hs4 => ?_⟩
                  have hB4 := hB2.quiet hV4 hs4
                  simp -dsimp only [Vm.E, List.lookup, Nat.reduceAdd, Nat.reduceBEq, Int.reduceBNe, Int.reduceBEq, Bool.true_beq, Bool.false_beq, Vm.S, Nat.reduceLeDiff, q4]
                  refine call_one (S := rbeyondSpec) rfl _ GaL.rfl ⟨R, f, year, rfl, hB4.2.1, by omega, fun kv4 hsc4 hkl4 => ?_⟩
                  obtain rfl := hsc3.same hsc4
                  have hnl3 := allN_length year kv3
                  have hbl : ((allN year kv3).filterMap beyOf).length ≤ (allN year kv3).length := List.length_filterMap_le ..
                  generalize (allN year kv3).filterMap beyOf = bs at hbl ⊢
                  simp -dsimp only [Vm.E, List.lookup, Nat.reduceAdd, Nat.reduceBEq, Int.reduceBNe, Int.reduceBEq, Bool.true_beq, Bool.false_beq, Vm.S, Nat.reduceLeDiff, q4]
                  refine call_one (S := eqIntSpec) rfl _ GaL.rfl ⟨bs, bs, by omega, rfl, ?_⟩
                  have he : decide (bs = bs) = true := decide_eq_true rfl
                  rw [he]
                  simp -dsimp only [Vm.E, List.lookup, Nat.reduceAdd, Nat.reduceBEq, Int.reduceBNe, Int.reduceBEq, Bool.true_beq, Bool.false_beq, Vm.S, Nat.reduceLeDiff, q4]
                  refine call_one (S := shareSpec) rfl _ GaL.rfl ⟨a, b, rfl, ?_⟩
                  simp -dsimp only [Vm.E, List.lookup, Nat.reduceAdd, Nat.reduceBEq, Int.reduceBNe, Int.reduceBEq, Bool.true_beq, Bool.false_beq, Vm.S, Nat.reduceLeDiff, q4]
                  refine call_one (S := shareSpec) rfl _ GaL.rfl ⟨a, b, rfl, ?_⟩
                  have hs : (shareOf a b == shareOf a b) = true := beq_self_eq_true _
                  simp -dsimp only [Vm.E, List.lookup, Nat.reduceAdd, Nat.reduceBEq, Int.reduceBNe, Int.reduceBEq, Bool.true_beq, Bool.false_beq, Vm.S, Nat.reduceLeDiff, q4, hs]
                  refine call_one (S := totalSpec) rfl _ GaL.rfl ⟨ls, by omega, rfl, ?_⟩
                  generalize ht : totalOf ls = t
                  simp -dsimp only [Vm.E, List.lookup, Nat.reduceAdd, Nat.reduceBEq, Int.reduceBNe, Int.reduceBEq, Bool.true_beq, Bool.false_beq, Vm.S, Nat.reduceLeDiff, q4]
                  refine call_one (S := alownSpec) rfl _ GaL.rfl ⟨t, rfl, ?_⟩
                  simp only [alCells]
                  simp -dsimp only [Vm.E, List.lookup, Nat.reduceAdd, Nat.reduceBEq, Int.reduceBNe, Int.reduceBEq, Bool.true_beq, Bool.false_beq, Vm.S, Nat.reduceLeDiff, q4]
                  refine call_one (S := totalSpec) rfl _ GaL.rfl ⟨ls, by omega, rfl, ?_⟩
                  rw [ht]
                  simp only [alCells]
                  simp -dsimp only [Vm.E, List.lookup, Nat.reduceAdd, Nat.reduceBEq, Int.reduceBNe, Int.reduceBEq, Bool.true_beq, Bool.false_beq, Vm.S, Nat.reduceLeDiff, q4]
                  refine eq_agg fd42 rfl ?_
                  simp -dsimp only [Vm.E, List.lookup, Nat.reduceAdd, Nat.reduceBEq, Int.reduceBNe, Int.reduceBEq, Bool.true_beq, Bool.false_beq, Vm.S, Nat.reduceLeDiff, q4, Bool.true_and, Bool.and_self]
                  refine call_one (S := sameSpec) rfl _ GaL.rfl ⟨V, R, f, rfl, hB4, by omega, fun h5 hB5 => ?_⟩
                  simp -dsimp only [Vm.E, List.lookup, Nat.reduceAdd, Nat.reduceBEq, Int.reduceBNe, Int.reduceBEq, Bool.true_beq, Bool.false_beq, Vm.S, Nat.reduceLeDiff, q4]
                  refine call_one (S := trueSpec) rfl _ GaL.rfl ⟨rfl, fun hz => ?_⟩
                  simp -dsimp only [Vm.E, List.lookup, Nat.reduceAdd, Nat.reduceBEq, Int.reduceBNe, Int.reduceBEq, Bool.true_beq, Bool.false_beq, Vm.S, Nat.reduceLeDiff, q4]
                  exact hq _
    · simp -dsimp only [Vm.E, List.lookup, Nat.reduceAdd, Nat.reduceBEq, Int.reduceBNe, Int.reduceBEq, Bool.true_beq, Bool.false_beq, Vm.S, Nat.reduceLeDiff, q4]
      refine call_one (S := trueSpec) rfl _ GaL.rfl ⟨rfl, fun hz => ?_⟩
      simp -dsimp only [Vm.E, List.lookup, Nat.reduceAdd, Nat.reduceBEq, Int.reduceBNe, Int.reduceBEq, Bool.true_beq, Bool.false_beq, Vm.S, Nat.reduceLeDiff, q4]
      exact hq _
  · simp -dsimp only [Vm.E, List.lookup, Nat.reduceAdd, Nat.reduceBEq, Int.reduceBNe, Int.reduceBEq, Bool.true_beq, Bool.false_beq, Vm.S, Nat.reduceLeDiff, q4]
    refine call_one (S := trueSpec) rfl _ GaL.rfl ⟨rfl, fun hz => ?_⟩
    simp -dsimp only [Vm.E, List.lookup, Nat.reduceAdd, Nat.reduceBEq, Int.reduceBNe, Int.reduceBEq, Bool.true_beq, Bool.false_beq, Vm.S, Nat.reduceLeDiff, q4]
    exact hq _
theorem isA_al {y : AV} (h : IsA (.agg [.int .i64, .int .i64, .int .i64, .int .i64, .int .i64, .int .i64]) y) : ∃ x : Al, True ∧ y = alAv x := by
  simp only [IsA, IsAll] at h
  obtain ⟨ys, ⟨y1, r1, rfl, h1, y2, r2, rfl, h2, y3, r3, rfl, h3, y4, r4, rfl, h4, y5, r5, rfl, h5, y6, r6, rfl, h6, rfl⟩, rfl⟩ := h
  obtain ⟨a1, k1, rfl⟩ := isA_int (by simpa only [IsA] using h1)
  obtain ⟨a2, k2, rfl⟩ := isA_int (by simpa only [IsA] using h2)
  obtain ⟨a3, k3, rfl⟩ := isA_int (by simpa only [IsA] using h3)
  obtain ⟨a4, k4, rfl⟩ := isA_int (by simpa only [IsA] using h4)
  obtain ⟨a5, k5, rfl⟩ := isA_int (by simpa only [IsA] using h5)
  obtain ⟨a6, k6, rfl⟩ := isA_int (by simpa only [IsA] using h6)
  exact ⟨⟨a1, a2, a3, a4, a5, a6⟩, trivial, rfl⟩
theorem atells_args {y0 y1 y2 y3 y4 : AV} (i0 : IsA (.sl (.agg [.int .i64, .int .i64, .int .i64, .int .i64, .int .i64, .bool, .int .i64, .int .i64, .int .i64, .int .i64, .int .i64, .int .i64])) y0) (i1 : IsA (.int .i64) y1) (i2 : IsA (.int .i64) y2) (i3 : IsA (.int .i64) y3) (i4 : IsA (.sl (.agg [.int .i64, .int .i64, .int .i64, .int .i64, .int .i64, .int .i64])) y4) {Q : AV → Heap → Prop} (hq : ∀ h', Q (.v (.bool true)) h') : atellsSpec [y0, y1, y2, y3, y4] [] Q := by
  obtain ⟨l, hl, rfl, hok⟩ := isA_list _ ndAv (fun y hy => isA_nd hy) i0
  obtain ⟨y, -, rfl⟩ := isA_int i1
  obtain ⟨a, -, rfl⟩ := isA_int i2
  obtain ⟨b, -, rfl⟩ := isA_int i3
  obtain ⟨ls, hls, rfl, -⟩ := isA_list _ alAv (fun y hy => isA_al hy) i4
  exact ⟨l, y, a, b, ls, hl, hok, hls, rfl, hq⟩
end Go.Proofs.Lx
