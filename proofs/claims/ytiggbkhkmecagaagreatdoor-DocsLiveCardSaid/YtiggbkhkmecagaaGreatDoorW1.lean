/- What the functions of the program do: their contracts. -/
import Derived.Test.YtiggbkhkmecagaaGreatDoorV2
import Derived.Test.YtiggbkhkmecagaaGreatDoorTFs
import Derived.Test.YtiggbkhkmecagaaGreatDoorW0
/- The reference's tables, walked. -/
set_option linter.unusedSimpArgs false
set_option linter.unusedVariables false
namespace Go.Proofs.Lx
open Go.Vm
attribute [local irreducible] awpArr awpBin awpMake awpAppend awpCvX awpStrOf awpBinX awpSlice awpBS awpStore awpAlloc awpCopy awpIndex awpDraw awpIdxX awpFa awpField awpLookup awpUpdate awpDelete awpClear awpRange awpNext awpEntry awpBuild awpClearS awpIdxL awpTree appB
def rRightSpec : Vm.Spec := fun args h Q => ∃ k v : List UInt8, args = [.sl 1 (k.map encB), .sl 1 (v.map encB)] ∧ Q (.v (.bool (rightKV k v))) h
theorem does_rRight : Does Tryz.prog 171 rRightSpec := by
  refine does_of_awp good_nil Tryz.func171 rfl (by decide +kernel) (by decide +kernel) ?_
  rintro args h Q ⟨k, v, rfl, hq⟩
  refine ⟨by simp [Tryz.f171], ?_⟩
  rw [awpFunc_some (by rfl)]
  simp -dsimp only [Vm.E, List.lookup, Nat.reduceAdd, Nat.reduceBEq, Int.reduceBNe, Int.reduceBEq, Bool.true_beq, Bool.false_beq, Tryz.underlying32]
  by_cases d1 : 1 ≤ k.length
  · have c1 : decide ((k.length : Int) ≥ 1) = true := decide_eq_true (by omega)
    simp -dsimp only [Vm.E, List.lookup, Nat.reduceAdd, Nat.reduceBEq, Int.reduceBNe, Int.reduceBEq, Bool.true_beq, Bool.false_beq, c1, Tryz.underlying32]
    by_cases d2 : k.length ≤ 32
    · have c2 : decide ((k.length : Int) ≤ 32) = true := decide_eq_true (by omega)
      simp -dsimp only [Vm.E, List.lookup, Nat.reduceAdd, Nat.reduceBEq, Int.reduceBNe, Int.reduceBEq, Bool.true_beq, Bool.false_beq, c2, Tryz.underlying32, Tryz.results171]
      have : rightKV k v = decide ((v.length : Int) ≤ 120) := by
        unfold rightKV
        have e1 : ¬ k.length < 1 := by omega
        have e2 : ¬ 32 < k.length := by omega
        by_cases e : v.length ≤ 120
        · have : ¬ 120 < v.length := by omega
          have e3 : ((v.length : Int) ≤ 120) := by omega
          have e4 : ¬ ((120 : Int) < v.length) := by omega
          have e5 : ¬ ((32 : Int) < k.length) := by omega
          have e6 : ¬ ((k.length : Int) < 1) := by omega
          simp [e3, e4, e5, e6]
        · have e3 : ¬ ((v.length : Int) ≤ 120) := by omega
          have e4 : ((120 : Int) < v.length) := by omega
          simp [e3, e4]
      rw [← this]; exact hq
    · have c2 : decide ((k.length : Int) ≤ 32) = false := decide_eq_false (by omega)
      simp -dsimp only [Vm.E, List.lookup, Nat.reduceAdd, Nat.reduceBEq, Int.reduceBNe, Int.reduceBEq, Bool.true_beq, Bool.false_beq, c2, Tryz.underlying32, Tryz.results171]
      have : rightKV k v = false := by unfold rightKV; simp; omega
      rw [this] at hq; exact hq
  · have c1 : decide ((k.length : Int) ≥ 1) = false := decide_eq_false (by omega)
    simp -dsimp only [Vm.E, List.lookup, Nat.reduceAdd, Nat.reduceBEq, Int.reduceBNe, Int.reduceBEq, Bool.true_beq, Bool.false_beq, c1, Tryz.underlying32, Tryz.results171]
    have : rightKV k v = false := by unfold rightKV; simp; omega
    rw [this] at hq; exact hq
def tabObj (l : List KV) : AObj := .cells [.sl 2 (l.map kvAv)]
def tGetSpec : Vm.Spec := fun args h Q => ∃ (i : Nat) (l : List KV) (k : List UInt8), args = [.ptr i 0, .sl 1 (k.map encB)] ∧ h[i]? = some (tabObj l) ∧ l.length ≤ 1073741824 ∧ (∀ p ∈ l, p.2.length ≤ 1073741824) ∧
  (∀ v, tfind k l = some v → Q (.tup [.sl 1 (v.map encB), .v (.bool true)]) h) ∧ (tfind k l = none → Q (.tup [.v (.slice none 0 0), .v (.bool false)]) h)
theorem tfind_at {k : List UInt8} {l : List KV} {i : Nat} (hi : i < l.length) (hb : ∀ j (hj : j < i), (l[j]'(by omega)).1 ≠ k) (he : l[i].1 = k) : tfind k l = some l[i].2 := by
  unfold tfind
  have : l.find? (fun p => p.1 == k) = some l[i] := by
    rw [List.find?_eq_some_iff_getElem]
    exact ⟨by simpa using he, i, hi, rfl, fun j hj => by simpa using hb j hj⟩
  rw [this]; rfl
theorem tfind_no {k : List UInt8} {l : List KV} (hb : ∀ j (hj : j < l.length), l[j].1 ≠ k) : tfind k l = none := by
  unfold tfind
  rw [List.find?_eq_none.2 fun p hp => ?_]; rfl
  obtain ⟨j, hj, rfl⟩ := List.getElem_of_mem hp
  simpa using hb j hj
set_option maxRecDepth 20000 in
theorem does_tGet : Does Tryz.prog 197 tGetSpec := by
  refine does_of_awp good_nil Tryz.func197 rfl (by decide +kernel) (by decide +kernel) ?_
  rintro args h Q ⟨id, l, k, rfl, hh, hl, hvl, hq1, hq2⟩
  unfold tabObj at hh
  refine ⟨by simp [Tryz.f197], ?_⟩
  rw [awpFunc_some (by rfl)]
  simp -dsimp only [Vm.E, List.lookup, Nat.reduceAdd, Nat.reduceBEq, Int.reduceBNe, Int.reduceBEq, Bool.true_beq, Bool.false_beq]
  refine awp_loop (fun m s h' => ∃ i : Nat, i + m = l.length ∧ h' = h ∧ (∀ j (hj : j < l.length), j < i → l[j].1 ≠ k) ∧ s = mk [(0, .ptr id 0), (1, .sl 1 (k.map encB)), (6, .v (.int .i64 i))])
    l.length _ (le_mk _ ?_) ⟨0, by omega, rfl, fun j _ hj => by omega, rfl⟩ ?_
  · simp only [List.forall_mem_cons, List.not_mem_nil, false_imp_iff, implies_true, and_true]
    simp -dsimp only [Vm.E, List.lookup, Nat.reduceAdd, Nat.reduceBEq, Int.reduceBNe, Int.reduceBEq, Bool.true_beq, Bool.false_beq]
    exact ⟨.refl _, .refl _, .refl _⟩
  · rintro m s h' ⟨i, hi, rfl, hb, rfl⟩
    simp -dsimp only [Vm.E, List.lookup, Nat.reduceAdd, Nat.reduceBEq, Int.reduceBNe, Int.reduceBEq, Bool.true_beq, Bool.false_beq, fo139_0, hh, of65, Tryz.underlying65]
    refine cond_intro (fun hcc => ?_) (fun hcc => ?_)
    · have hlt : i < l.length := by have := of_decide_eq_true hcc; omega
      have hw : IntKind.i64.wrap ((i : Int) + 1) = ((i + 1 : Nat) : Int) := by rw [wrap_i64 (by omega) (by omega)]; simp
      obtain ⟨p, hp⟩ : ∃ p, l[i] = p := ⟨_, rfl⟩
      have hvp : p.2.length ≤ 1073741824 := hvl p (hp ▸ List.getElem_mem hlt)
      have hf1 : p.1 = k → tfind k l = some p.2 := fun e => by rw [← hp]; exact tfind_at hlt (fun j hj => hb j _ hj) (by rw [hp]; exact e)
      simp -dsimp only [Vm.E, List.lookup, Nat.reduceAdd, Nat.reduceBEq, Int.reduceBNe, Int.reduceBEq, Bool.true_beq, Bool.false_beq]
      refine draw_cont [] (.take 0 (.take 1 (.take 2 (.take 4 (.take 9 (.take 10 (.alt 3 (.take 5 (.take 6 (.take 7 (.take 8 (.take 11 (.done)))))) .stop))))))) (fun s h2 => h2 = h' ∧ s 27 = .v (.bool (p.1 == k)) ∧ s 0 = .ptr id 0 ∧ s 1 = .sl 1 (k.map encB) ∧ s 6 = .v (.int .i64 i)) (by kernel_rfl) (by kernel_rfl) (by kernel_rfl) (by decide) ?_ ?_
      · simp -dsimp only [Vm.G, List.lookup, Nat.reduceAdd, Nat.reduceBEq, Int.reduceBNe, Int.reduceBEq, Nat.reduceLeDiff, fo139_0, hh, of65, es65, as65, Tryz.underlying32, cs32]
        refine strOf_sl bt32 k rfl ?_
        simp -dsimp only [Vm.G, List.lookup, Nat.reduceAdd, Nat.reduceBEq, Int.reduceBNe, Int.reduceBEq, Nat.reduceLeDiff, fo139_0, hh, of65, es65, as65, Tryz.underlying32, cs32, fo155_0, fo155_1, of32, AV.cells, Tryz.underlying65]
        refine idx_map kvAv l i hlt ?_
        simp only [hp, kvAv]
        simp -dsimp only [Vm.G, List.lookup, Nat.reduceAdd, Nat.reduceBEq, Int.reduceBNe, Int.reduceBEq, Nat.reduceLeDiff, fo139_0, hh, of65, es65, as65, Tryz.underlying32, cs32, fo155_0, fo155_1, of32, AV.cells, Tryz.underlying65]
        refine strOf_sl bt32 p.1 rfl ?_
        simp -dsimp only [Vm.G, List.lookup, Nat.reduceAdd, Nat.reduceBEq, Int.reduceBNe, Int.reduceBEq, Nat.reduceLeDiff, fo139_0, hh, of65, es65, as65, Tryz.underlying32, cs32, fo155_0, fo155_1, of32, AV.cells, Tryz.underlying65]
        simp -dsimp only [Vm.E, List.lookup, Nat.reduceAdd, Nat.reduceBEq, Int.reduceBNe, Int.reduceBEq, Bool.true_beq, Bool.false_beq, str_eql, toList_mk]
      · rintro s h2 ⟨rfl, e27, e0, e1, e6⟩
        cases c1 : (p.1 == k)
        · rw [c1] at e27
          simp -dsimp only [Vm.E, List.lookup, Nat.reduceAdd, Nat.reduceBEq, Int.reduceBNe, Int.reduceBEq, Bool.true_beq, Bool.false_beq, e27, e6, hw]
          refine kept_intro ⟨l.length - (i + 1), by omega, _, le_mk [(0, .ptr id 0), (1, .sl 1 (k.map encB)), (6, .v (.int .i64 (i + 1 : Nat)))] ?_, i + 1, by omega, rfl, fun j hj hj2 => ?_, rfl⟩
          · simp only [List.forall_mem_cons, List.not_mem_nil, false_imp_iff, implies_true, and_true]
            simp -dsimp only [Vm.E, List.lookup, Nat.reduceAdd, Nat.reduceBEq, Int.reduceBNe, Int.reduceBEq, Bool.true_beq, Bool.false_beq, e0, e1]
            exact ⟨.refl _, .refl _, .refl _⟩
          · by_cases hji : j = i
            · subst hji; rw [hp]; simpa using c1
            · exact hb j hj (by omega)
        · rw [c1] at e27
          have hf := hq1 _ (hf1 (by simpa using c1))
          simp -dsimp only [Vm.E, List.lookup, Nat.reduceAdd, Nat.reduceBEq, Int.reduceBNe, Int.reduceBEq, Bool.true_beq, Bool.false_beq, e27, e6, e0, e1, Vm.S, Nat.reduceLeDiff, fo139_0, hh, of65, es65, as65, Tryz.underlying32, cs32, fo155_0, fo155_1, of32, AV.cells, Tryz.underlying65]
          refine idx_map kvAv l i hlt ?_
          simp only [hp, kvAv]
          simp -dsimp only [Vm.E, List.lookup, Nat.reduceAdd, Nat.reduceBEq, Int.reduceBNe, Int.reduceBEq, Bool.true_beq, Bool.false_beq, e27, e6, e0, e1, Vm.S, Nat.reduceLeDiff, fo139_0, hh, of65, es65, as65, Tryz.underlying32, cs32, fo155_0, fo155_1, of32, AV.cells, Tryz.underlying65]
          simp -dsimp only [Vm.E, List.lookup, Nat.reduceAdd, Nat.reduceBEq, Int.reduceBNe, Int.reduceBEq, Bool.true_beq, Bool.false_beq, e27, e6, e0, e1, append_nil ei32]
          refine app_sl Tryz.underlying32 (fun c hc => by obtain ⟨y, -, rfl⟩ := List.mem_map.1 hc; rfl) (by simp only [List.length_map, List.length_nil]; omega) ?_
          simp -dsimp only [Vm.E, List.lookup, Nat.reduceAdd, Nat.reduceBEq, Int.reduceBNe, Int.reduceBEq, Bool.true_beq, Bool.false_beq, e27, e6, e0, e1, Tryz.results197]
          exact hf
    · have hge : ¬ i < l.length := by have := of_decide_eq_false hcc; omega
      simp -dsimp only [Vm.E, List.lookup, Nat.reduceAdd, Nat.reduceBEq, Int.reduceBNe, Int.reduceBEq, Bool.true_beq, Bool.false_beq, Tryz.results197]
      exact hq2 (tfind_no fun j hj => hb j hj (by omega))
theorem str_lss {t : TypeId} {a b : ByteArray} {KV : Value → Prop} : awpBin Tryz.prog .lss t (.v (.string a)) (.v (.string b)) KV = KV (.bool (Op.bytesLess a.toList b.toList)) := by simp [awpBin]
def lessAt (l : List KV) (i : Nat) (k : List UInt8) : Bool := (l[i]?.map fun p => decide (kLt p.1 k)).getD false
def sameAt (l : List KV) (i : Nat) (k : List UInt8) : Bool := (l[i]?.map fun p => p.1 == k).getD false
theorem lessAt_true {l : List KV} {i : Nat} {k : List UInt8} (h : lessAt l i k = true) : ∃ hi : i < l.length, kLt l[i].1 k := by
  unfold lessAt at h
  by_cases hi : i < l.length
  · rw [List.getElem?_eq_getElem hi] at h; exact ⟨hi, by simpa using h⟩
  · rw [List.getElem?_eq_none (by omega)] at h; cases h
theorem sameAt_true {l : List KV} {i : Nat} {k : List UInt8} (h : sameAt l i k = true) : ∃ hi : i < l.length, l[i].1 = k := by
  unfold sameAt at h
  by_cases hi : i < l.length
  · rw [List.getElem?_eq_getElem hi] at h; exact ⟨hi, by simpa using h⟩
  · rw [List.getElem?_eq_none (by omega)] at h; cases h
theorem tput_at {k v : List UInt8} {l : List KV} {i : Nat} (hi : i ≤ l.length) (hb : ∀ j (hj : j < l.length), j < i → kLt l[j].1 k) (h1 : lessAt l i k = false) (h2 : sameAt l i k = false) : tput k v l = l.take i ++ (k, v) :: l.drop i := by
  refine tput_ins k v l i hi (fun j hj => hb j _ hj) fun h => ?_
  unfold lessAt at h1; unfold sameAt at h2
  rw [List.getElem?_eq_getElem h] at h1 h2
  exact ⟨by simpa using h1, by simpa using h2⟩
def tPutSpec : Vm.Spec := fun args h Q => ∃ (i : Nat) (l : List KV) (k v : List UInt8), args = [.ptr i 0, .sl 1 (k.map encB), .sl 1 (v.map encB)] ∧ h[i]? = some (tabObj l) ∧ l.length ≤ 1073741824 ∧ k.length ≤ 1073741824 ∧ v.length ≤ 1073741824 ∧
  Q (.tup []) (h.set i (tabObj (tput k v l)))
set_option maxRecDepth 20000 in
set_option maxHeartbeats 16000000 in
theorem does_tPut : Does Tryz.prog 172 tPutSpec := by
  refine does_of_awp good_nil Tryz.func172 rfl (by decide +kernel) (by decide +kernel) ?_
  rintro args h Q ⟨id, l, k, v, rfl, hh, hl, hkl, hvl, hq⟩
  unfold tabObj at hh hq
  refine ⟨by simp [Tryz.f172], ?_⟩
  rw [awpFunc_some (by rfl)]
  simp -dsimp only [Vm.E, List.lookup, Nat.reduceAdd, Nat.reduceBEq, Int.reduceBNe, Int.reduceBEq, Bool.true_beq, Bool.false_beq, append_nil ei32]
  refine app_sl Tryz.underlying32 (fun c hc => by obtain ⟨y, -, rfl⟩ := List.mem_map.1 hc; rfl) (by simp only [List.length_map, List.length_nil]; omega) ?_
  simp -dsimp only [Vm.E, List.lookup, Nat.reduceAdd, Nat.reduceBEq, Int.reduceBNe, Int.reduceBEq, Bool.true_beq, Bool.false_beq, append_nil ei32]
  refine app_sl Tryz.underlying32 (fun c hc => by obtain ⟨y, -, rfl⟩ := List.mem_map.1 hc; rfl) (by simp only [List.length_map, List.length_nil]; omega) ?_
  simp -dsimp only [Vm.G, List.lookup, Nat.reduceAdd, Nat.reduceBEq, Int.reduceBNe, Int.reduceBEq, Nat.reduceLeDiff, List.nil_append, bd155, al155, sz155]
  refine awp_loop (fun m s h' => ∃ i : Nat, i + m = l.length ∧ h' = h ∧ (∀ j (hj : j < l.length), j < i → kLt l[j].1 k) ∧ s = mk [(0, .ptr id 0), (1, .sl 1 (k.map encB)), (6, .box [.sl 1 (k.map encB), .sl 1 (v.map encB)]), (7, .v (.int .i64 i))])
    l.length _ (le_mk _ ?_) ⟨0, by omega, rfl, fun j _ hj => by omega, rfl⟩ ?_
  · simp only [List.forall_mem_cons, List.not_mem_nil, false_imp_iff, implies_true, and_true]
    simp -dsimp only [Vm.E, List.lookup, Nat.reduceAdd, Nat.reduceBEq, Int.reduceBNe, Int.reduceBEq, Bool.true_beq, Bool.false_beq]
    exact ⟨.refl _, .refl _, .refl _, .refl _⟩
  · rintro m s h' ⟨i, hi, rfl, hb, rfl⟩
    simp -dsimp only [Vm.E, List.lookup, Nat.reduceAdd, Nat.reduceBEq, Int.reduceBNe, Int.reduceBEq, Bool.true_beq, Bool.false_beq]
    have hw : i < l.length → IntKind.i64.wrap ((i : Int) + 1) = ((i + 1 : Nat) : Int) := fun hlt => by rw [wrap_i64 (by omega) (by omega)]; simp
    refine draw_cont [] (.take 0 (.take 1 (.take 2 (.take 3 (.alt 4 (.take 5 (.take 6 (.take 7 (.take 8 (.take 9 (.take 10 (.take 12 (.take 17 (.alt 11 (.take 13 (.take 14 (.alt 15 (.alt 16 (.alt 18 (.take 19 (.take 20 (.done))) .stop) (.alt 18 (.alt 16 (.take 19 (.take 20 (.done))) .stop) (.stop))) (.alt 18 (.alt 15 (.alt 16 (.take 19 (.take 20 (.done))) .stop) .stop) (.stop))))) (.alt 18 (.alt 11 (.take 13 (.take 14 (.alt 15 (.alt 16 (.take 19 (.take 20 (.done))) .stop) .stop))) .stop) (.stop))))))))))) .stop))))) (fun s hx => hx = h' ∧ s 34 = .v (.bool (lessAt l i k)) ∧ s 0 = .ptr id 0 ∧ s 1 = .sl 1 (k.map encB) ∧ s 6 = .box [.sl 1 (k.map encB), .sl 1 (v.map encB)] ∧ s 7 = .v (.int .i64 i)) (by kernel_rfl) (by kernel_rfl) (by kernel_rfl) (by decide) ?_ ?_
    · by_cases hlt : i < l.length
      · have c1 : decide ((i : Int) < l.length) = true := decide_eq_true (by omega)
        obtain ⟨p, hp⟩ : ∃ p, l[i] = p := ⟨_, rfl⟩
        have hv : (lessAt l i k) = decide (kLt p.1 k) := by unfold lessAt; rw [List.getElem?_eq_getElem hlt, hp]; rfl
        simp only [hv]
        repeat' first
          | with_reducible exact True.intro
          | simp -dsimp only [Vm.G, List.lookup, Nat.reduceAdd, Nat.reduceBEq, Int.reduceBNe, Int.reduceBEq, Nat.reduceLeDiff, fo139_0, hh, of65, es65, as65, Tryz.underlying32, cs32, fo155_0, fo155_1, of32, AV.cells, Tryz.underlying65, c1, str_eql, str_lss, toList_mk, bytesLess_cb]
          | refine strOf_sl bt32 k rfl ?_
          | refine strOf_sl bt32 p.1 rfl ?_
          | (refine idx_map kvAv l i hlt ?_; simp only [hp, kvAv])
          | refine tree_alt ?_ ?_
      · have c1 : decide ((i : Int) < l.length) = false := decide_eq_false (by omega)
        have hv : (lessAt l i k) = false := by unfold lessAt; rw [List.getElem?_eq_none (by omega)]; rfl
        simp only [hv]
        repeat' first
          | with_reducible exact True.intro
          | simp -dsimp only [Vm.G, List.lookup, Nat.reduceAdd, Nat.reduceBEq, Int.reduceBNe, Int.reduceBEq, Nat.reduceLeDiff, fo139_0, hh, of65, es65, as65, Tryz.underlying32, cs32, fo155_0, fo155_1, of32, AV.cells, Tryz.underlying65, c1]
          | refine tree_alt ?_ ?_
    · rintro s h2 ⟨rfl, e34, e0, e1, e6, e7⟩
      cases hb2 : lessAt l i k
      · rw [hb2] at e34
        simp -dsimp only [Vm.E, List.lookup, Nat.reduceAdd, Nat.reduceBEq, Int.reduceBNe, Int.reduceBEq, Bool.true_beq, Bool.false_beq, e34, e0, e1, e6, e7]
        refine draw_cont [] (.take 0 (.take 1 (.take 2 (.take 3 (.alt 4 (.take 5 (.take 6 (.take 7 (.take 8 (.take 9 (.take 10 (.take 12 (.take 17 (.alt 11 (.take 13 (.take 14 (.alt 15 (.alt 16 (.alt 18 (.take 19 (.take 20 (.done))) .stop) (.alt 18 (.alt 16 (.take 19 (.take 20 (.done))) .stop) (.stop))) (.alt 18 (.alt 15 (.alt 16 (.take 19 (.take 20 (.done))) .stop) .stop) (.stop))))) (.alt 18 (.alt 11 (.take 13 (.take 14 (.alt 15 (.alt 16 (.take 19 (.take 20 (.done))) .stop) .stop))) .stop) (.stop))))))))))) .stop))))) (fun s hx => hx = h2 ∧ s 57 = .v (.bool (sameAt l i k)) ∧ s 0 = .ptr id 0 ∧ s 1 = .sl 1 (k.map encB) ∧ s 6 = .box [.sl 1 (k.map encB), .sl 1 (v.map encB)] ∧ s 7 = .v (.int .i64 i)) (by kernel_rfl) (by kernel_rfl) (by kernel_rfl) (by decide) ?_ ?_
        · by_cases hlt : i < l.length
          · have c1 : decide ((i : Int) < l.length) = true := decide_eq_true (by omega)
            obtain ⟨p, hp⟩ : ∃ p, l[i] = p := ⟨_, rfl⟩
            have hv : (sameAt l i k) = (p.1 == k) := by unfold sameAt; rw [List.getElem?_eq_getElem hlt, hp]; rfl
            simp only [hv]
            repeat' first
              | with_reducible exact True.intro
              | simp -dsimp only [Vm.G, List.lookup, Nat.reduceAdd, Nat.reduceBEq, Int.reduceBNe, Int.reduceBEq, Nat.reduceLeDiff, fo139_0, hh, of65, es65, as65, Tryz.underlying32, cs32, fo155_0, fo155_1, of32, AV.cells, Tryz.underlying65, c1, str_eql, str_lss, toList_mk, bytesLess_cb, e34, e0, e1, e6, e7]
              | refine strOf_sl bt32 k rfl ?_
              | refine strOf_sl bt32 p.1 rfl ?_
              | (refine idx_map kvAv l i hlt ?_; simp only [hp, kvAv])
              | refine tree_alt ?_ ?_
          · have c1 : decide ((i : Int) < l.length) = false := decide_eq_false (by omega)
            have hv : (sameAt l i k) = false := by unfold sameAt; rw [List.getElem?_eq_none (by omega)]; rfl
            simp only [hv]
            repeat' first
              | with_reducible exact True.intro
              | simp -dsimp only [Vm.G, List.lookup, Nat.reduceAdd, Nat.reduceBEq, Int.reduceBNe, Int.reduceBEq, Nat.reduceLeDiff, fo139_0, hh, of65, es65, as65, Tryz.underlying32, cs32, fo155_0, fo155_1, of32, AV.cells, Tryz.underlying65, c1, e34, e0, e1, e6, e7]
              | refine tree_alt ?_ ?_
        · rintro s3 h3 ⟨rfl, e57, f0, f1, f6, f7⟩
          clear e34 e0 e1 e6 e7
          cases hb4 : sameAt l i k
          · rw [hb4] at e57
            simp -dsimp only [Vm.E, List.lookup, Nat.reduceAdd, Nat.reduceBEq, Int.reduceBNe, Int.reduceBEq, Bool.true_beq, Bool.false_beq, e57, f0, f1, f6, f7]
            have hput := tput_at (k := k) (v := v) (by omega) hb hb2 hb4
            have hil : i ≤ l.length := by omega
            have e1 : (l.map kvAv).take (i : Int).toNat = (l.take i).map kvAv := by rw [Int.toNat_natCast, List.map_take]
            have e2 : (l.map kvAv).drop (i : Int).toNat = (l.drop i).map kvAv := by rw [Int.toNat_natCast, List.map_drop]
            have hu : ∀ (l : List KV), ∀ c ∈ l.map kvAv, c.cells.length = 2 := fun l c hc => by obtain ⟨y, -, rfl⟩ := List.mem_map.1 hc; rfl
            have hfin : (l.take i).map kvAv ++ [AV.agg [.sl 1 (k.map encB), .sl 1 (v.map encB)]] ++ (l.drop i).map kvAv = (tput k v l).map kvAv := by rw [hput]; simp [kvAv]
            refine draw_cont [6] (.take 0 (.take 1 (.take 2 (.take 3 (.take 5 (.take 8 (.take 11 (.take 12 (.take 13 (.take 15 (.alt 4 (.take 6 (.alt 7 (.alt 9 (.alt 10 (.alt 14 (.take 16 (.alt 17 (.take 18 (.take 19 (.alt 20 (.done) .stop))) .stop)) .stop) (.alt 14 (.take 16 (.alt 10 (.alt 17 (.take 18 (.take 19 (.alt 20 (.done) .stop))) .stop) .stop)) (.stop))) (.alt 14 (.take 16 (.alt 9 (.alt 10 (.alt 17 (.take 18 (.take 19 (.alt 20 (.done) .stop))) .stop) .stop) .stop)) (.stop))) (.alt 9 (.alt 7 (.alt 10 (.alt 14 (.take 16 (.alt 17 (.take 18 (.take 19 (.alt 20 (.done) .stop))) .stop)) .stop) (.alt 14 (.take 16 (.alt 10 (.alt 17 (.take 18 (.take 19 (.alt 20 (.done) .stop))) .stop) .stop)) (.stop))) (.alt 14 (.take 16 (.alt 7 (.alt 10 (.alt 17 (.take 18 (.take 19 (.alt 20 (.done) .stop))) .stop) .stop) .stop)) (.stop))) (.alt 14 (.take 16 (.alt 7 (.alt 9 (.alt 10 (.alt 17 (.take 18 (.take 19 (.alt 20 (.done) .stop))) .stop) .stop) .stop) (.alt 9 (.alt 7 (.alt 10 (.alt 17 (.take 18 (.take 19 (.alt 20 (.done) .stop))) .stop) .stop) .stop) (.stop)))) (.stop))))) (.alt 9 (.alt 4 (.take 6 (.alt 7 (.alt 10 (.alt 14 (.take 16 (.alt 17 (.take 18 (.take 19 (.alt 20 (.done) .stop))) .stop)) .stop) (.alt 14 (.take 16 (.alt 10 (.alt 17 (.take 18 (.take 19 (.alt 20 (.done) .stop))) .stop) .stop)) (.stop))) (.alt 14 (.take 16 (.alt 7 (.alt 10 (.alt 17 (.take 18 (.take 19 (.alt 20 (.done) .stop))) .stop) .stop) .stop)) (.stop)))) (.alt 14 (.take 16 (.alt 4 (.take 6 (.alt 7 (.alt 10 (.alt 17 (.take 18 (.take 19 (.alt 20 (.done) .stop))) .stop) .stop) .stop)) .stop)) (.stop))) (.alt 14 (.take 16 (.alt 4 (.take 6 (.alt 7 (.alt 9 (.alt 10 (.alt 17 (.take 18 (.take 19 (.alt 20 (.done) .stop))) .stop) .stop) .stop) (.alt 9 (.alt 7 (.alt 10 (.alt 17 (.take 18 (.take 19 (.alt 20 (.done) .stop))) .stop) .stop) .stop) (.stop)))) (.alt 9 (.alt 4 (.take 6 (.alt 7 (.alt 10 (.alt 17 (.take 18 (.take 19 (.alt 20 (.done) .stop))) .stop) .stop) .stop)) .stop) (.stop)))) (.stop)))))))))))))) (fun s hx => hx = h3.set id (tabObj (tput k v l))) (by kernel_rfl) (by kernel_rfl) (by kernel_rfl) (by decide) ?_ ?_
            · clear hq hb hw
              repeat' first
                | with_reducible exact True.intro
                | simp -dsimp only [Vm.G, List.lookup, Nat.reduceAdd, Nat.reduceBEq, Int.reduceBNe, Int.reduceBEq, Nat.reduceLeDiff, fo139_0, hh, of65, es65, as65, Tryz.underlying32, cs32, fo155_0, fo155_1, of32, AV.cells, Tryz.underlying65, f0, f1, f6, f7, e1, e2, List.nil_append, of155, append_nil ei65, append_own ei65, hfin, tabObj, sz65]
                | refine tree_alt ?_ ?_
                | refine slice_h es65 (by omega) (by rw [List.length_map]; omega) ?_
                | refine slice_l es65 (by omega) (by rw [List.length_map]; omega) ?_
                | refine bs_intro zr155 (by decide) (by decide) rfl rfl (by simp [solid, AV.cells]) ?_
                | refine app_sl Tryz.underlying65 (hu _) (by simp only [List.length_map, List.length_nil, List.length_append, List.length_cons, List.length_take, List.length_drop]; omega) ?_
                | refine app_sl Tryz.underlying65 (by simp [AV.cells]) (by simp only [List.length_map, List.length_nil, List.length_append, List.length_cons, List.length_take, List.length_drop]; omega) ?_
            · rintro s4 h4 rfl
              simp -dsimp only [Vm.E, List.lookup, Nat.reduceAdd, Nat.reduceBEq, Int.reduceBNe, Int.reduceBEq, Bool.true_beq, Bool.false_beq, Tryz.results172]
              exact hq
          · rw [hb4] at e57
            obtain ⟨hlt, heq⟩ := sameAt_true hb4
            have hset := tput_set k v l i hlt (fun j hj => hb j _ hj) heq
            simp -dsimp only [Vm.G, List.lookup, Nat.reduceAdd, Nat.reduceBEq, Int.reduceBNe, Int.reduceBEq, Nat.reduceLeDiff, fo139_0, hh, of65, es65, as65, Tryz.underlying32, cs32, fo155_0, fo155_1, of32, AV.cells, Tryz.underlying65, e57, f0, f1, f6, f7, append_nil ei65]
            refine app_sl Tryz.underlying65 (fun c hc => by obtain ⟨y, -, rfl⟩ := List.mem_map.1 hc; rfl) (by simp only [List.length_map, List.length_nil]; omega) ?_
            simp -dsimp only [Vm.G, List.lookup, Nat.reduceAdd, Nat.reduceBEq, Int.reduceBNe, Int.reduceBEq, Nat.reduceLeDiff, fo139_0, hh, of65, es65, as65, Tryz.underlying32, cs32, fo155_0, fo155_1, of32, AV.cells, Tryz.underlying65, e57, f0, f1, f6, f7, List.nil_append, of155]
            refine idxO_intro (by omega) (by simp; omega) ?_
            simp -dsimp only [Vm.G, List.lookup, Nat.reduceAdd, Nat.reduceBEq, Int.reduceBNe, Int.reduceBEq, Nat.reduceLeDiff, fo139_0, hh, of65, es65, as65, Tryz.underlying32, cs32, fo155_0, fo155_1, of32, AV.cells, Tryz.underlying65, e57, f0, f1, f6, f7, of155, sz155, Int.toNat_natCast]
            have hre : (l.map kvAv).set i (.agg [.sl 1 (k.map encB), .sl 1 (v.map encB)]) = (tput k v l).map kvAv := by rw [hset, List.map_set]; rfl
            refine store_elt 155 (l.map kvAv) (by simp -dsimp only [Vm.E, List.lookup, Nat.reduceAdd, Nat.reduceBEq, Int.reduceBNe, Int.reduceBEq, Bool.true_beq, Bool.false_beq]) (y := kvAv l[i]) (by rw [List.getElem?_map, List.getElem?_eq_getElem hlt]; rfl) rfl rfl (by omega) rfl ?_
            simp only [kvAv, AV.cells, putCells, reCell, List.take_zero, List.nil_append, List.length_cons, List.length_nil, Nat.zero_add, Nat.reduceAdd, List.drop_succ_cons, List.drop_zero, List.append_nil, List.drop_nil]
            simp -dsimp only [Vm.G, List.lookup, Nat.reduceAdd, Nat.reduceBEq, Int.reduceBNe, Int.reduceBEq, Nat.reduceLeDiff, fo139_0, hh, of65, es65, as65, AV.cells, Tryz.underlying65, f0, f1, f6, f7, hre, sz65, Tryz.results172]
            exact hq
      · rw [hb2] at e34
        obtain ⟨hlt, hk⟩ := lessAt_true hb2
        simp -dsimp only [Vm.E, List.lookup, Nat.reduceAdd, Nat.reduceBEq, Int.reduceBNe, Int.reduceBEq, Bool.true_beq, Bool.false_beq, e34, e0, e1, e6, e7]
        refine kept_intro ⟨l.length - (i + 1), by omega, _, le_mk [(0, .ptr id 0), (1, .sl 1 (k.map encB)), (6, .box [.sl 1 (k.map encB), .sl 1 (v.map encB)]), (7, .v (.int .i64 (i + 1 : Nat)))] ?_, i + 1, by omega, rfl, fun j hj hj2 => ?_, rfl⟩
        · simp only [List.forall_mem_cons, List.not_mem_nil, false_imp_iff, implies_true, and_true]
          simp -dsimp only [Vm.E, List.lookup, Nat.reduceAdd, Nat.reduceBEq, Int.reduceBNe, Int.reduceBEq, Bool.true_beq, Bool.false_beq, e0, e1, e6, e7, hw hlt]
          exact ⟨.refl _, .refl _, .refl _, .refl _⟩
        · by_cases hji : j = i
          · subst hji; exact hk
          · exact hb j hj (by omega)
end Go.Proofs.Lx
/- The reference's records: ref17, ref18. -/
set_option linter.unusedSimpArgs false
set_option linter.unusedVariables false
namespace Go.Proofs.Lx
open Go.Vm
attribute [local irreducible] awpArr awpBin awpMake awpAppend awpCvX awpStrOf awpBinX awpSlice awpBS awpStore awpAlloc awpCopy awpIndex awpDraw awpIdxX awpFa awpField awpLookup awpUpdate awpDelete awpClear awpRange awpNext awpEntry awpBuild awpClearS awpIdxL
theorem does_rPack : Does Tryz.prog 195 packSpec := by
  refine does_of_awp (good_cons does_refPut good_nil) Tryz.func195 rfl (by decide +kernel) (by decide +kernel) ?_
  rintro args h Q ⟨l, hl, hn, rfl, hq⟩
  refine ⟨by simp [Tryz.f195], ?_⟩
  rw [awpFunc_some (by rfl)]
  simp -dsimp only [Vm.E, List.lookup, Nat.reduceAdd, Nat.reduceBEq, Int.reduceBNe, Int.reduceBEq, Bool.true_beq, Bool.false_beq]
  refine awp_loop (fun m s h' => ∃ i : Nat, i + m = (l.take 15).length ∧ h' = h ∧ s = mk [(0, .sl 1 (l.map encI)), (3, .own true 5 1 ((packs 8 (l.take i)).map encB)), (4, .v (.int .i64 i))])
    (l.take 15).length _ (le_mk _ ?_) ⟨0, by omega, rfl, rfl⟩ ?_
  · simp only [List.forall_mem_cons, List.not_mem_nil, false_imp_iff, implies_true, and_true]
    simp -dsimp only [Vm.E, List.lookup, Nat.reduceAdd, Nat.reduceBEq, Int.reduceBNe, Int.reduceBEq, Bool.true_beq, Bool.false_beq]
    exact ⟨.refl _, .nil _ _ _ (by decide), .refl _⟩
  · rintro m s h' ⟨i, hi, rfl, rfl⟩
    have hlen : (l.take 15).length = min 15 l.length := List.length_take ..
    simp -dsimp only [Vm.E, List.lookup, Nat.reduceAdd, Nat.reduceBEq, Int.reduceBNe, Int.reduceBEq, Bool.true_beq, Bool.false_beq, Tryz.underlying28]
    by_cases a1 : i < l.length
    · have c1 : decide ((i : Int) < l.length) = true := decide_eq_true (by omega)
      simp -dsimp only [Vm.E, List.lookup, Nat.reduceAdd, Nat.reduceBEq, Int.reduceBNe, Int.reduceBEq, Bool.true_beq, Bool.false_beq, c1]
      by_cases a2 : i < 15
      · have c2 : decide ((i : Int) < 15) = true := decide_eq_true (by omega)
        simp -dsimp only [Vm.E, List.lookup, Nat.reduceAdd, Nat.reduceBEq, Int.reduceBNe, Int.reduceBEq, Bool.true_beq, Bool.false_beq, c2, es28, as28]
        refine idx_ints l i a1 ?_
        simp -dsimp only [Vm.E, List.lookup, Nat.reduceAdd, Nat.reduceBEq, Int.reduceBNe, Int.reduceBEq, Bool.true_beq, Bool.false_beq, of3]
        have hb := packs_length 8 (l.take i)
        have hti : (l.take i).length ≤ i := by rw [List.length_take]; omega
        have hr := hn l[i] (List.getElem_mem a1)
        have hw : IntKind.i64.wrap ((i : Int) + 1) = ((i + 1 : Nat) : Int) := by rw [wrap_i64 (by omega) (by omega)]; simp
        refine call_one (S := putSpec) rfl _ GaL.rfl ⟨packs 8 (l.take i), l[i], 8, by omega, hr.1, hr.2, rfl, ?_⟩
        simp only [putOf8, ← packs_take 8 l i a1]
        simp -dsimp only [Vm.E, List.lookup, Nat.reduceAdd, Nat.reduceBEq, Int.reduceBNe, Int.reduceBEq, Bool.true_beq, Bool.false_beq]
        refine kept_intro ⟨(l.take 15).length - (i + 1), by omega, _, le_mk [(0, .sl 1 (l.map encI)), (3, .own true 5 1 ((packs 8 (l.take (i + 1))).map encB)), (4, .v (.int .i64 (i + 1 : Nat)))] ?_, i + 1, by omega, rfl, rfl⟩
        simp only [List.forall_mem_cons, List.not_mem_nil, false_imp_iff, implies_true, and_true]
        simp -dsimp only [Vm.E, List.lookup, Nat.reduceAdd, Nat.reduceBEq, Int.reduceBNe, Int.reduceBEq, Bool.true_beq, Bool.false_beq, hw]
        exact ⟨.refl _, .refl _, .refl _⟩
      · have c2 : decide ((i : Int) < 15) = false := decide_eq_false (by omega)
        simp -dsimp only [Vm.E, List.lookup, Nat.reduceAdd, Nat.reduceBEq, Int.reduceBNe, Int.reduceBEq, Bool.true_beq, Bool.false_beq, c2, Tryz.results195]
        have : i = 15 := by omega
        subst this
        exact hq
    · have c1 : decide ((i : Int) < l.length) = false := decide_eq_false (by omega)
      simp -dsimp only [Vm.E, List.lookup, Nat.reduceAdd, Nat.reduceBEq, Int.reduceBNe, Int.reduceBEq, Bool.true_beq, Bool.false_beq, c1, Tryz.results195]
      unfold packOf at hq
      rw [List.take_of_length_le (by omega)] at hq
      rw [List.take_of_length_le (by omega)]
      exact hq
theorem does_rKey : Does Tryz.prog 96 keySpec := by
  refine does_of_awp (good_cons does_refPut good_nil) Tryz.func96 rfl (by decide +kernel) (by decide +kernel) ?_
  rintro args h Q ⟨tag, l, hl, rfl, hq⟩
  refine ⟨by simp [Tryz.f96], ?_⟩
  rw [awpFunc_some (by rfl)]
  simp -dsimp only [Vm.E, List.lookup, Nat.reduceAdd, Nat.reduceBEq, Int.reduceBNe, Int.reduceBEq, Bool.true_beq, Bool.false_beq, es32]
  refine bs_intro zr5 (by decide) (by decide) rfl rfl (by simp [solid, AV.cells]) ?_
  simp -dsimp only [Vm.E, List.lookup, Nat.reduceAdd, Nat.reduceBEq, Int.reduceBNe, Int.reduceBEq, Bool.true_beq, Bool.false_beq]
  refine awp_loop (fun m s h' => ∃ i : Nat, i + m = (l.take 7).length ∧ h' = h ∧ s = mk [(1, .sl 1 (l.map encI)), (5, .own true 5 1 ((tag :: packs 4 ((l.map clampK).take i)).map encB)), (6, .v (.int .i64 i))])
    (l.take 7).length _ (le_mk _ ?_) ⟨0, by omega, rfl, rfl⟩ ?_
  · simp only [List.forall_mem_cons, List.not_mem_nil, false_imp_iff, implies_true, and_true]
    simp -dsimp only [Vm.E, List.lookup, Nat.reduceAdd, Nat.reduceBEq, Int.reduceBNe, Int.reduceBEq, Bool.true_beq, Bool.false_beq]
    exact ⟨.refl _, .refl _, .refl _⟩
  · rintro m s h' ⟨i, hi, rfl, rfl⟩
    have hlen : (l.take 7).length = min 7 l.length := List.length_take ..
    simp -dsimp only [Vm.E, List.lookup, Nat.reduceAdd, Nat.reduceBEq, Int.reduceBNe, Int.reduceBEq, Bool.true_beq, Bool.false_beq, Tryz.underlying28]
    by_cases a1 : i < l.length
    · have c1 : decide ((i : Int) < l.length) = true := decide_eq_true (by omega)
      simp -dsimp only [Vm.E, List.lookup, Nat.reduceAdd, Nat.reduceBEq, Int.reduceBNe, Int.reduceBEq, Bool.true_beq, Bool.false_beq, c1]
      by_cases a2 : i < 7
      · have c2 : decide ((i : Int) < 7) = true := decide_eq_true (by omega)
        simp -dsimp only [Vm.E, List.lookup, Nat.reduceAdd, Nat.reduceBEq, Int.reduceBNe, Int.reduceBEq, Bool.true_beq, Bool.false_beq, c2, es28, as28]
        refine idx_ints l i a1 ?_
        simp -dsimp only [Vm.E, List.lookup, Nat.reduceAdd, Nat.reduceBEq, Int.reduceBNe, Int.reduceBEq, Bool.true_beq, Bool.false_beq, of3]
        have hlt' : i < (l.map clampK).length := by simpa using a1
        have hb := packs_length 4 ((l.map clampK).take i)
        have hti : ((l.map clampK).take i).length ≤ i := by rw [List.length_take]; omega
        have hr := clampK_range l[i]
        have hget : (l.map clampK)[i] = clampK l[i] := by simp
        have hw : IntKind.i64.wrap ((i : Int) + 1) = ((i + 1 : Nat) : Int) := by rw [wrap_i64 (by omega) (by omega)]; simp
        refine call_one (S := putSpec) rfl _ GaL.rfl ⟨tag :: packs 4 ((l.map clampK).take i), clampK l[i], 4, by simp only [List.length_cons]; omega, by omega, by omega, rfl, ?_⟩
        have hput : putOf (tag :: packs 4 ((l.map clampK).take i)) (clampK l[i]) 4 = tag :: packs 4 ((l.map clampK).take (i + 1)) := by
          rw [putOf4 _ _ hr.1 hr.2, List.cons_append, ← hget, ← packs_take 4 (l.map clampK) i hlt']
        simp only [hput]
        simp -dsimp only [Vm.E, List.lookup, Nat.reduceAdd, Nat.reduceBEq, Int.reduceBNe, Int.reduceBEq, Bool.true_beq, Bool.false_beq]
        refine kept_intro ⟨(l.take 7).length - (i + 1), by omega, _, le_mk [(1, .sl 1 (l.map encI)), (5, .own true 5 1 ((tag :: packs 4 ((l.map clampK).take (i + 1))).map encB)), (6, .v (.int .i64 (i + 1 : Nat)))] ?_, i + 1, by omega, rfl, rfl⟩
        simp only [List.forall_mem_cons, List.not_mem_nil, false_imp_iff, implies_true, and_true]
        simp -dsimp only [Vm.E, List.lookup, Nat.reduceAdd, Nat.reduceBEq, Int.reduceBNe, Int.reduceBEq, Bool.true_beq, Bool.false_beq, hw]
        exact ⟨.refl _, .refl _, .refl _⟩
      · have c2 : decide ((i : Int) < 7) = false := decide_eq_false (by omega)
        simp -dsimp only [Vm.E, List.lookup, Nat.reduceAdd, Nat.reduceBEq, Int.reduceBNe, Int.reduceBEq, Bool.true_beq, Bool.false_beq, c2, Tryz.results96]
        have : i = 7 := by omega
        subst this
        unfold keyOf at hq
        rw [List.map_take] at hq
        exact hq
    · have c1 : decide ((i : Int) < l.length) = false := decide_eq_false (by omega)
      simp -dsimp only [Vm.E, List.lookup, Nat.reduceAdd, Nat.reduceBEq, Int.reduceBNe, Int.reduceBEq, Bool.true_beq, Bool.false_beq, c1, Tryz.results96]
      unfold keyOf at hq
      rw [List.map_take, List.take_of_length_le (by simp; omega)] at hq
      rw [List.take_of_length_le (l := l.map clampK) (by simp; omega)]
      exact hq
theorem does_rUnpack : Does Tryz.prog 200 unpackSpec := by
  refine does_of_awp (good_cons does_refGet good_nil) Tryz.func200 rfl (by decide +kernel) (by decide +kernel) ?_
  rintro args h Q ⟨b, many, hl, hm, rfl, hq⟩
  refine ⟨by simp [Tryz.f200], ?_⟩
  rw [awpFunc_some (by rfl)]
  unfold unpackRes at hq
  simp -dsimp only [Vm.E, List.lookup, Nat.reduceAdd, Nat.reduceBEq, Int.reduceBNe, Int.reduceBEq, Bool.true_beq, Bool.false_beq]
  cases h0 : decide (many < 0)
  · have h0' : ¬ many < 0 := of_decide_eq_false h0
    simp -dsimp only [Vm.E, List.lookup, Nat.reduceAdd, Nat.reduceBEq, Int.reduceBNe, Int.reduceBEq, Bool.true_beq, Bool.false_beq]
    cases h1 : decide (many > 15)
    · have h1' : ¬ 15 < many := of_decide_eq_false h1
      rw [if_neg (by omega)] at hq
      have hw8 : IntKind.i64.wrap (8 * many) = 8 * many := wrap_i64 (by omega) (by omega)
      simp -dsimp only [Vm.E, List.lookup, Nat.reduceAdd, Nat.reduceBEq, Int.reduceBNe, Int.reduceBEq, Bool.true_beq, Bool.false_beq, Tryz.underlying32, hw8]
      cases h2 : ((b.length : Int) != 8 * many)
      · have h2' : (b.length : Int) = 8 * many := by simpa using h2
        rw [if_neg (by omega)] at hq
        obtain ⟨k, rfl⟩ : ∃ k : Nat, many = k := ⟨many.toNat, by omega⟩
        rw [Int.toNat_natCast] at hq
        have hk : k ≤ 15 := by omega
        simp -dsimp only [Vm.E, List.lookup, Nat.reduceAdd, Nat.reduceBEq, Int.reduceBNe, Int.reduceBEq, Bool.true_beq, Bool.false_beq]
        refine awp_loop (fun m s h' => ∃ i : Nat, i + m = k ∧ h' = h ∧ s = mk [(0, .sl 1 (b.map encB)), (1, .v (.int .i64 k)), (6, .own true 3 1 ((numsOf b i).map encI)), (7, .v (.int .i64 i))])
          k _ (le_mk _ ?_) ⟨0, by omega, rfl, rfl⟩ ?_
        · simp only [List.forall_mem_cons, List.not_mem_nil, false_imp_iff, implies_true, and_true]
          simp -dsimp only [Vm.E, List.lookup, Nat.reduceAdd, Nat.reduceBEq, Int.reduceBNe, Int.reduceBEq, Bool.true_beq, Bool.false_beq]
          exact ⟨.refl _, .refl _, .nil _ _ _ (by decide), .refl _⟩
        · rintro m s h' ⟨i, hi, rfl, rfl⟩
          simp -dsimp only [Vm.E, List.lookup, Nat.reduceAdd, Nat.reduceBEq, Int.reduceBNe, Int.reduceBEq, Bool.true_beq, Bool.false_beq]
          refine cond_intro (fun hc => ?_) (fun hc => ?_)
          · have hlt : i < k := by have := of_decide_eq_true hc; omega
            have hwi : IntKind.i64.wrap (8 * (i : Int)) = ((8 * i : Nat) : Int) := by rw [wrap_i64 (by omega) (by omega)]; simp
            have hw : IntKind.i64.wrap ((i : Int) + 1) = ((i + 1 : Nat) : Int) := by rw [wrap_i64 (by omega) (by omega)]; simp
            simp -dsimp only [Vm.E, List.lookup, Nat.reduceAdd, Nat.reduceBEq, Int.reduceBNe, Int.reduceBEq, Bool.true_beq, Bool.false_beq, hwi]
            refine call_one (S := getSpec) rfl _ GaL.rfl ⟨b, ((8 * i : Nat) : Int), 8, by omega, by omega, rfl, ?_⟩
            simp only [getRes8 b i (by omega)]
            simp -dsimp only [Vm.E, List.lookup, Nat.reduceAdd, Nat.reduceBEq, Int.reduceBNe, Int.reduceBEq, Bool.true_beq, Bool.false_beq, es28]
            refine bs_intro zr3 (by decide) (by decide) rfl rfl (by simp [solid, AV.cells]) ?_
            simp -dsimp only [Vm.E, List.lookup, Nat.reduceAdd, Nat.reduceBEq, Int.reduceBNe, Int.reduceBEq, Bool.true_beq, Bool.false_beq, append_own ei28]
            refine app_sl Tryz.underlying28 (by simp [AV.cells]) (by simp [numsOf]; omega) ?_
            simp -dsimp only [Vm.E, List.lookup, Nat.reduceAdd, Nat.reduceBEq, Int.reduceBNe, Int.reduceBEq, Bool.true_beq, Bool.false_beq]
            have e3 : (numsOf b i).map encI ++ [AV.v (.int .i64 (num8 b i))] = (numsOf b (i + 1)).map encI := by simp [numsOf, List.range_succ, encI]
            refine kept_intro ⟨k - (i + 1), by omega, _, le_mk [(0, .sl 1 (b.map encB)), (1, .v (.int .i64 k)), (6, .own true 3 1 ((numsOf b (i + 1)).map encI)), (7, .v (.int .i64 (i + 1 : Nat)))] ?_, i + 1, by omega, rfl, rfl⟩
            simp only [List.forall_mem_cons, List.not_mem_nil, false_imp_iff, implies_true, and_true]
            simp -dsimp only [Vm.E, List.lookup, Nat.reduceAdd, Nat.reduceBEq, Int.reduceBNe, Int.reduceBEq, Bool.true_beq, Bool.false_beq, hw, e3]
            exact ⟨.refl _, .refl _, .refl _, .refl _⟩
          · have hge : ¬ i < k := by have := of_decide_eq_false hc; omega
            simp -dsimp only [Vm.E, List.lookup, Nat.reduceAdd, Nat.reduceBEq, Int.reduceBNe, Int.reduceBEq, Bool.true_beq, Bool.false_beq, Tryz.results200]
            obtain rfl : i = k := by omega
            exact hq
      · have h2' : ¬ (b.length : Int) = 8 * many := by simpa using h2
        rw [if_pos h2'] at hq
        simp -dsimp only [Vm.E, List.lookup, Nat.reduceAdd, Nat.reduceBEq, Int.reduceBNe, Int.reduceBEq, Bool.true_beq, Bool.false_beq, Tryz.results200]
        exact hq
    · have h1' : 15 < many := of_decide_eq_true h1
      rw [if_pos (.inr h1')] at hq
      simp -dsimp only [Vm.E, List.lookup, Nat.reduceAdd, Nat.reduceBEq, Int.reduceBNe, Int.reduceBEq, Bool.true_beq, Bool.false_beq, Tryz.results200]
      exact hq
  · have h0' : many < 0 := of_decide_eq_true h0
    rw [if_pos (.inl h0')] at hq
    simp -dsimp only [Vm.E, List.lookup, Nat.reduceAdd, Nat.reduceBEq, Int.reduceBNe, Int.reduceBEq, Bool.true_beq, Bool.false_beq, Tryz.results200]
    exact hq
end Go.Proofs.Lx
/- The reference's view. -/
set_option linter.unusedSimpArgs false
set_option linter.unusedVariables false
namespace Go.Proofs.Lx
open Go.Vm
attribute [local irreducible] awpArr awpBin awpMake awpAppend awpCvX awpStrOf awpBinX awpSlice awpBS awpStore awpAlloc awpCopy awpIndex awpDraw awpIdxX awpFa awpField awpLookup awpUpdate awpDelete awpClear awpRange awpNext awpEntry awpBuild awpClearS awpIdxL
def GaO (x y : AObj) : Prop := x = y ∨ ∃ a b, x = .cells a ∧ y = .cells b ∧ GaL a b
def GaH (h h' : Heap) : Prop := h.length = h'.length ∧ ∀ (i : Nat) (o' : AObj), h'[i]? = some o' → ∃ o : AObj, h[i]? = some o ∧ GaO o o'
theorem GaH.rep {w : World} {g : Gh} {h h' : Heap} (hg : GaH h h') (hh : HeapRep w g h) : HeapRep w g h' := by
  refine ⟨hg.1 ▸ hh.n, hh.lt, hh.inj, fun i o' ho' => ?_⟩
  obtain ⟨o, ho, hgo⟩ := hg.2 i o' ho'
  have hr := hh.obj i o ho
  rcases hgo with rfl | ⟨a, b, rfl, rfl, hab⟩
  · exact hr
  · obtain ⟨vs, e, h1, h2, h3, h4, h5⟩ := hr
    obtain ⟨q1, q2⟩ := gaL_rep (w := w) (g := g) hab
    exact ⟨vs, e, h1, q1 ▸ h2, h3, fun j hj => h4 j (by omega), q2 (fun j => vs.getD j undef) h5⟩
def WeakH (S : Vm.Spec) : Vm.Spec := fun args h Q => ∃ h', GaH h h' ∧ S args h' fun r h2 => ∃ h3, GaH h2 h3 ∧ Q r h3
theorem does_weakH {P : Program} {f : FuncId} {S : Vm.Spec} (hd : Does P f S) : Does P f (WeakH S) := by
  refine ⟨hd.1, fun args h Q ⟨h', hg, hS⟩ w g vs hvs hrep hh hf hlaid => (hd.2 args h' _ hS w g vs hvs hrep (hg.rep hh) hf hlaid).mono ?_⟩
  rintro e w' ⟨r, h2, g', v, ⟨h3, hg3, hq⟩, he, hres, hhr, hrest⟩
  exact ⟨r, h3, g', v, hq, he, hres, hg3.rep hhr, hrest⟩
theorem GaH.refl (h : Heap) : GaH h h := ⟨rfl, fun i o ho => ⟨o, ho, .inl rfl⟩⟩
theorem GaH.append {h : Heap} {a b : List AObj} (hab : a.length = b.length) (hi : ∀ (i : Nat) (o' : AObj), b[i]? = some o' → ∃ o, a[i]? = some o ∧ GaO o o') : GaH (h ++ a) (h ++ b) := by
  refine ⟨by simp [hab], fun i o' ho' => ?_⟩
  rcases Nat.lt_or_ge i h.length with hl | hl
  · rw [List.getElem?_append_left hl] at ho' ⊢
    exact ⟨o', ho', .inl rfl⟩
  · rw [List.getElem?_append_right hl] at ho' ⊢
    exact hi _ _ ho'
structure RId where
  iv : Nat
  iw : Nat
  inn : Nat
  it : Nat
/-- A view of the reference: what each key has. -/
def isRef (h : Heap) (R : RId) (f : Fun) : Prop :=
  ∃ lw ln lt : List KV, h[R.iv]? = some (.cells [.ptr R.iw 0, .ptr R.inn 0, .ptr R.it 0]) ∧ h[R.iw]? = some (tabObj lw) ∧ h[R.inn]? = some (tabObj ln) ∧ h[R.it]? = some (tabObj lt) ∧
    (R.iv ≠ R.inn ∧ R.iv ≠ R.it ∧ R.inn ≠ R.it ∧ R.iw ≠ R.inn ∧ R.iw ≠ R.it) ∧ TabIs f ln ∧ (ln.length ≤ f.n ∧ lt.length ≤ f.n) ∧ ∀ p ∈ ln, p.1.length ≤ 32 ∧ p.2.length ≤ 120
def rFoot (R : RId) : List Nat := [R.inn, R.it]
theorem isRef.len {h : Heap} {R : RId} {f : Fun} (hR : isRef h R f) {k l : List UInt8} (hf : f k = some l) : k.length ≤ 32 ∧ l.length ≤ 120 := by
  obtain ⟨lw, ln, lt, -, -, -, -, -, h6, -, h8⟩ := hR
  exact h8 (k, l) ((h6.2 k l).2 hf)
def rNewH (h : Heap) : Heap := h ++ [tabObj [], tabObj [], tabObj [], .cells [.ptr h.length 0, .ptr (h.length + 1) 0, .ptr (h.length + 2) 0]]
def rNewId (h : Heap) : RId := ⟨h.length + 3, h.length, h.length + 1, h.length + 2⟩
def rNewSpec : Vm.Spec := fun args h Q => args = [.sl 2 []] ∧ Q (.ptr (rNewId h).iv 0) (rNewH h)
theorem does_rNew0 : Does Tryz.prog 21 (fun args h Q => args = [.sl 2 []] ∧ Q (.ptr (h.length + 3) 0) (h ++ [tabObj [], tabObj [], .cells [.v (.slice none 0 0)], .cells [.ptr h.length 0, .ptr (h.length + 1) 0, .ptr (h.length + 2) 0]])) := by
  refine does_of_awp good_nil Tryz.func21 rfl (by decide +kernel) (by decide +kernel) ?_
  rintro args h Q ⟨rfl, hq⟩
  refine ⟨by simp [Tryz.f21], ?_⟩
  rw [awpFunc_some (by rfl)]
  unfold tabObj at hq
  simp -dsimp only [Vm.G, List.lookup, Nat.reduceAdd, Nat.reduceBEq, Int.reduceBNe, Int.reduceBEq, Nat.reduceLeDiff, bd139, bd141, Tryz.results21]
  simpa using hq
theorem does_rNew : Does Tryz.prog 21 rNewSpec := by
  refine (does_weakH does_rNew0).imp ?_
  rintro args h Q ⟨rfl, hq⟩
  refine ⟨h, .refl h, rfl, rNewH h, ?_, hq⟩
  refine GaH.append rfl fun i o' ho' => ?_
  match i, ho' with
  | 0, ho' => exact ⟨o', ho', .inl rfl⟩
  | 1, ho' => exact ⟨o', ho', .inl rfl⟩
  | 2, ho' => exact ⟨_, rfl, .inr ⟨_, _, rfl, (Option.some.inj ho').symm, .cons (.nil 2) .nil⟩⟩
  | 3, ho' => exact ⟨o', ho', .inl rfl⟩
  | i + 4, ho' => simp at ho'
theorem isRef_new (h : Heap) : isRef (rNewH h) (rNewId h) noF := by
  unfold rNewH rNewId
  refine ⟨[], [], [], ?_, ?_, ?_, ?_, ⟨by simp, by simp, by simp, by simp, by simp⟩, TabIs.new, ⟨by simp, by simp⟩, by simp⟩
  · rw [List.getElem?_append_right (by simp)]; simp
  · rw [List.getElem?_append_right (by simp)]; simp
  · rw [List.getElem?_append_right (by simp)]; simp
  · rw [List.getElem?_append_right (by simp)]; simp
def rGetSpec : Vm.Spec := fun args h Q => ∃ (R : RId) (f : Fun) (k : List UInt8), args = [.ptr R.iv 0, .sl 1 (k.map encB)] ∧ isRef h R f ∧ f.n ≤ 536870912 ∧
  (∀ l, f k = some l → Q (.tup [.sl 1 (l.map encB), .v (.bool true)]) h) ∧ (f k = none → Q (.tup [.sl 1 [], .v (.bool false)]) h)
theorem does_rGet : Does Tryz.prog 119 rGetSpec := by
  refine Does.imp (S := Weak fun args h Q => ∃ (R : RId) (f : Fun) (k : List UInt8), args = [.ptr R.iv 0, .sl 1 (k.map encB)] ∧ isRef h R f ∧ f.n ≤ 536870912 ∧
    (∀ l, f k = some l → Q (.tup [.sl 1 (l.map encB), .v (.bool true)]) h) ∧ (f k = none → Q (.tup [.v (.slice none 0 0), .v (.bool false)]) h)) (Does.weak ?_) ?_
  · refine does_of_awp (good_cons does_tGet good_nil) Tryz.func119 rfl (by decide +kernel) (by decide +kernel) ?_
    rintro args h Q ⟨R, f, k, rfl, hR, hn, hq1, hq2⟩
    refine ⟨by simp [Tryz.f119], ?_⟩
    rw [awpFunc_some (by rfl)]
    obtain ⟨lw, ln, lt, h1, h2, h3, h4, h5, h6, h7, h8⟩ := hR
    simp -dsimp only [Vm.G, List.lookup, Nat.reduceAdd, Nat.reduceBEq, Int.reduceBNe, Int.reduceBEq, Nat.reduceLeDiff, fo141_1, h1, of137]
    refine call_one (S := tGetSpec) rfl _ GaL.rfl ⟨R.inn, ln, k, rfl, h3, by omega, fun p hp => by have := (h8 p hp).2; omega, fun v hv => ?_, fun hv => ?_⟩
    · rw [h6.find] at hv
      simp -dsimp only [Vm.E, List.lookup, Nat.reduceAdd, Nat.reduceBEq, Int.reduceBNe, Int.reduceBEq, Bool.true_beq, Bool.false_beq, Tryz.results119]
      exact hq1 v hv
    · rw [h6.find] at hv
      simp -dsimp only [Vm.E, List.lookup, Nat.reduceAdd, Nat.reduceBEq, Int.reduceBNe, Int.reduceBEq, Bool.true_beq, Bool.false_beq, Tryz.results119]
      exact hq2 hv
  · rintro args h Q ⟨R, f, k, rfl, hR, hn, hq1, hq2⟩
    exact ⟨R, f, k, rfl, hR, hn, fun l hf => ⟨_, .refl _, hq1 l hf⟩, fun hf => ⟨_, .tup (.cons (.nil 1) GaL.rfl), hq2 hf⟩⟩
def rPutSpec : Vm.Spec := fun args h Q => ∃ (R : RId) (f : Fun) (k v : List UInt8), args = [.ptr R.iv 0, .sl 1 (k.map encB), .sl 1 (v.map encB)] ∧ isRef h R f ∧ f.n ≤ 536870912 ∧
  (rightKV k v = true → ∀ h', isRef h' R (upd f k (some v)) → Same h h' (rFoot R) → Q (.v (.int .i64 0)) h') ∧ (rightKV k v = false → Q (.v (.int .i64 1)) h)
theorem does_rPut : Does Tryz.prog 95 rPutSpec := by
  refine does_of_awp (good_cons does_rRight (good_cons does_tPut good_nil)) Tryz.func95 rfl (by decide +kernel) (by decide +kernel) ?_
  rintro args h Q ⟨R, f, k, v, rfl, hR, hn, hq1, hq2⟩
  refine ⟨by simp [Tryz.f95], ?_⟩
  rw [awpFunc_some (by rfl)]
  obtain ⟨lw, ln, lt, h1, h2, h3, h4, h5, h6, h7, h8⟩ := hR
  simp -dsimp only [Vm.G, List.lookup, Nat.reduceAdd, Nat.reduceBEq, Int.reduceBNe, Int.reduceBEq, Nat.reduceLeDiff]
  refine call_one (S := rRightSpec) rfl _ GaL.rfl ⟨k, v, rfl, ?_⟩
  cases hr : rightKV k v
  · simp -dsimp only [Vm.E, List.lookup, Nat.reduceAdd, Nat.reduceBEq, Int.reduceBNe, Int.reduceBEq, Bool.true_beq, Bool.false_beq, Tryz.results95]
    exact hq2 hr
  · have hrk : k.length ≤ 32 ∧ v.length ≤ 120 := by unfold rightKV at hr; simp at hr; omega
    simp -dsimp only [Vm.G, List.lookup, Nat.reduceAdd, Nat.reduceBEq, Int.reduceBNe, Int.reduceBEq, Nat.reduceLeDiff, fo141_2, h1, of137]
    refine call_one (S := tPutSpec) rfl _ (.cons (.refl _) (.cons (.refl _) (.cons (.nil 1) .nil))) ⟨R.it, lt, k, [], rfl, h4, by omega, by omega, by simp, ?_⟩
    have hi : ∀ {i : Nat} {o : AObj} {h : Heap}, h[i]? = some o → i < h.length := fun {i o h} hx => by
      rcases Nat.lt_or_ge i h.length with h' | h'
      · exact h'
      · rw [List.getElem?_eq_none h'] at hx; cases hx
    have g1 : (h.set R.it (tabObj (tput k [] lt)))[R.iv]? = some (.cells [.ptr R.iw 0, .ptr R.inn 0, .ptr R.it 0]) := by rw [List.getElem?_set_ne (by exact fun e => h5.2.1 e.symm)]; exact h1
    have g3 : (h.set R.it (tabObj (tput k [] lt)))[R.inn]? = some (tabObj ln) := by rw [List.getElem?_set_ne (by exact fun e => h5.2.2.1 e.symm)]; exact h3
    have g2 : (h.set R.it (tabObj (tput k [] lt)))[R.iw]? = some (tabObj lw) := by rw [List.getElem?_set_ne (by exact fun e => h5.2.2.2.2 e.symm)]; exact h2
    have g4 : (h.set R.it (tabObj (tput k [] lt)))[R.it]? = some (tabObj (tput k [] lt)) := List.getElem?_set_self (hi h4)
    have gs : Same h (h.set R.it (tabObj (tput k [] lt))) (rFoot R) := ⟨by simp, fun i hl hi => List.getElem?_set_ne (by simp [rFoot] at hi; exact fun e => hi.2 e.symm)⟩
    generalize h.set R.it (tabObj (tput k [] lt)) = h2' at g1 g2 g3 g4 gs ⊢
    simp -dsimp only [Vm.G, List.lookup, Nat.reduceAdd, Nat.reduceBEq, Int.reduceBNe, Int.reduceBEq, Nat.reduceLeDiff, fo141_1, g1, of137]
    refine call_one (S := tPutSpec) rfl _ GaL.rfl ⟨R.inn, ln, k, v, rfl, g3, by omega, by omega, by omega, ?_⟩
    simp -dsimp only [Vm.E, List.lookup, Nat.reduceAdd, Nat.reduceBEq, Int.reduceBNe, Int.reduceBEq, Bool.true_beq, Bool.false_beq, Tryz.results95]
    refine hq1 hr _ ⟨lw, tput k v ln, tput k [] lt, ?_, ?_, ?_, ?_, h5, h6.put k v, ⟨?_, ?_⟩, fun p hp => ?_⟩ ?_
    · rw [List.getElem?_set_ne (by exact fun e => h5.1 e.symm)]; exact g1
    · rw [List.getElem?_set_ne (by exact fun e => h5.2.2.2.1 e.symm)]; exact g2
    · exact List.getElem?_set_self (hi g3)
    · rw [List.getElem?_set_ne h5.2.2.1]; exact g4
    · have := tput_length k v ln; show _ ≤ f.n + 1; omega
    · have := tput_length k [] lt; show _ ≤ f.n + 1; omega
    · rcases tput_mem1 hp with rfl | hp
      · exact hrk
      · exact h8 p hp
    · exact ⟨by rw [List.length_set]; exact gs.1, fun i hl hi => by
        rw [List.getElem?_set_ne (by simp [rFoot] at hi; exact fun e => hi.1 e.symm)]; exact gs.2 i hl hi⟩
def rSetSpec : Vm.Spec := fun args h Q => ∃ (R : RId) (f : Fun) (p : KV), args = [.ptr R.iv 0, kvAv p] ∧ isRef h R f ∧ f.n ≤ 536870912 ∧
  ∀ h', isRef h' R (if rightKV p.1 p.2 then upd f p.1 (some p.2) else f) → Same h h' (rFoot R) → Q (.tup []) h'
theorem does_rSet : Does Tryz.prog 115 rSetSpec := by
  refine does_of_awp (good_cons does_rPut good_nil) Tryz.func115 rfl (by decide +kernel) (by decide +kernel) ?_
  rintro args h Q ⟨R, f, ⟨k, v⟩, rfl, hR, hn, hq⟩
  refine ⟨by simp [Tryz.f115], ?_⟩
  rw [awpFunc_some (by rfl)]
  simp only [kvAv]
  simp -dsimp only [Vm.G, List.lookup, Nat.reduceAdd, Nat.reduceBEq, Int.reduceBNe, Int.reduceBEq, Nat.reduceLeDiff, fo155_0, fo155_1, of32]
  refine call_one (S := rPutSpec) rfl _ GaL.rfl ⟨R, f, k, v, rfl, hR, hn, fun hr h' g1 g2 => ?_, fun hr => ?_⟩
  · simp -dsimp only [Vm.E, List.lookup, Nat.reduceAdd, Nat.reduceBEq, Int.reduceBNe, Int.reduceBEq, Bool.true_beq, Bool.false_beq, Tryz.results115]
    exact hq h' (by simp only [hr, if_true]; exact g1) g2
  · simp -dsimp only [Vm.E, List.lookup, Nat.reduceAdd, Nat.reduceBEq, Int.reduceBNe, Int.reduceBEq, Bool.true_beq, Bool.false_beq, Tryz.results115]
    exact hq h (by simp only [hr]; exact hR) (.refl _ _)
end Go.Proofs.Lx
/- The reference's numbers and years. -/
set_option linter.unusedSimpArgs false
set_option linter.unusedVariables false
namespace Go.Proofs.Lx
open Go.Vm
attribute [local irreducible] awpArr awpBin awpMake awpAppend awpCvX awpStrOf awpBinX awpSlice awpBS awpStore awpAlloc awpCopy awpIndex awpDraw awpIdxX awpFa awpField awpLookup awpUpdate awpDelete awpClear awpRange awpNext awpEntry awpBuild awpClearS awpIdxL
def rNumSpec : Vm.Spec := fun args h Q => ∃ (R : RId) (f : Fun) (k : List UInt8), args = [.ptr R.iv 0, .sl 1 (k.map encB)] ∧ isRef h R f ∧ f.n ≤ 536870912 ∧ ∀ b, Q (.tup [.v (.int .i64 (readOf f k)), .v (.bool b)]) h
theorem does_rNum : Does Tryz.prog 123 rNumSpec := by
  refine does_of_awp (good_cons does_rGet (good_cons does_rUnpack good_nil)) Tryz.func123 rfl (by decide +kernel) (by decide +kernel) ?_
  rintro args h Q ⟨R, f, k, rfl, hR, hn, hq⟩
  refine ⟨by simp [Tryz.f123], ?_⟩
  rw [awpFunc_some (by rfl)]
  unfold readOf at hq
  have hlen := fun l hf => (hR.len (k := k) (l := l) hf).2
  simp -dsimp only [Vm.E, List.lookup, Nat.reduceAdd, Nat.reduceBEq, Int.reduceBNe, Int.reduceBEq, Bool.true_beq, Bool.false_beq]
  refine call_one (S := rGetSpec) rfl _ GaL.rfl ⟨R, f, k, rfl, hR, hn, fun l hf => ?_, fun hf => ?_⟩
  · have hl := hlen l hf
    rw [hf] at hq
    have hq : ∀ b, Q (.tup [.v (.int .i64 (if l.length = 8 then num8 l 0 else 0)), .v (.bool b)]) h := hq
    simp -dsimp only [Vm.E, List.lookup, Nat.reduceAdd, Nat.reduceBEq, Int.reduceBNe, Int.reduceBEq, Bool.true_beq, Bool.false_beq]
    refine call_one (S := unpackSpec) rfl _ GaL.rfl ⟨l, 1, by omega, by unfold I64; omega, rfl, ?_⟩
    unfold unpackRes
    by_cases h8 : l.length = 8
    · rw [if_pos h8] at hq
      rw [if_neg (by omega), if_neg (by simp [h8])]
      have e0 : (numsOf l 1)[0]'(by simp [numsOf]) = num8 l 0 := by simp [numsOf]
      simp -dsimp only [Vm.E, List.lookup, Nat.reduceAdd, Nat.reduceBEq, Int.reduceBNe, Int.reduceBEq, Bool.true_beq, Bool.false_beq, bne_self_eq_false, es28, as28]
      refine idx_ints (numsOf l 1) 0 (by simp [numsOf]) ?_
      simp -dsimp only [Vm.E, List.lookup, Nat.reduceAdd, Nat.reduceBEq, Int.reduceBNe, Int.reduceBEq, Bool.true_beq, Bool.false_beq, of3, e0, Tryz.results123]
      exact hq true
    · rw [if_neg h8] at hq
      rw [if_neg (by omega), if_pos (by omega)]
      simp -dsimp only [Vm.E, List.lookup, Nat.reduceAdd, Nat.reduceBEq, Int.reduceBNe, Int.reduceBEq, Bool.true_beq, Bool.false_beq, Tryz.results123]
      exact hq false
  · rw [hf] at hq
    simp -dsimp only [Vm.E, List.lookup, Nat.reduceAdd, Nat.reduceBEq, Int.reduceBNe, Int.reduceBEq, Bool.true_beq, Bool.false_beq]
    refine call_one (S := unpackSpec) rfl _ GaL.rfl ⟨[], 1, by simp, by unfold I64; omega, rfl, ?_⟩
    unfold unpackRes
    rw [if_neg (by omega), if_pos (by simp)]
    simp -dsimp only [Vm.E, List.lookup, Nat.reduceAdd, Nat.reduceBEq, Int.reduceBNe, Int.reduceBEq, Bool.true_beq, Bool.false_beq, Tryz.results123]
    exact hq false
def rLastSpec : Vm.Spec := fun args h Q => ∃ (R : RId) (f : Fun) (which : Int), args = [.ptr R.iv 0, .v (.int .i64 which)] ∧ isRef h R f ∧ f.n ≤ 536870912 ∧ Q (.v (.int .i64 (readOf f (seqKey which)))) h
theorem does_rLast : Does Tryz.prog 47 rLastSpec := by
  refine does_of_awp (good_cons does_rKey (good_cons does_rNum good_nil)) Tryz.func47 rfl (by decide +kernel) (by decide +kernel) ?_
  rintro args h Q ⟨R, f, which, rfl, hR, hn, hq⟩
  refine ⟨by simp [Tryz.f47], ?_⟩
  rw [awpFunc_some (by rfl)]
  simp -dsimp only [Vm.E, List.lookup, Nat.reduceAdd, Nat.reduceBEq, Int.reduceBNe, Int.reduceBEq, Bool.true_beq, Bool.false_beq, es28]
  refine bs_intro zr3 (by decide) (by decide) rfl rfl (by simp [solid, AV.cells]) ?_
  simp -dsimp only [Vm.E, List.lookup, Nat.reduceAdd, Nat.reduceBEq, Int.reduceBNe, Int.reduceBEq, Bool.true_beq, Bool.false_beq]
  refine call_one (S := keySpec) rfl _ GaL.rfl ⟨83, [which], by simp, rfl, ?_⟩
  simp -dsimp only [Vm.E, List.lookup, Nat.reduceAdd, Nat.reduceBEq, Int.reduceBNe, Int.reduceBEq, Bool.true_beq, Bool.false_beq]
  refine call_one (S := rNumSpec) rfl _ GaL.rfl ⟨R, f, seqKey which, rfl, hR, hn, fun b => ?_⟩
  simp -dsimp only [Vm.E, List.lookup, Nat.reduceAdd, Nat.reduceBEq, Int.reduceBNe, Int.reduceBEq, Bool.true_beq, Bool.false_beq, Tryz.results47]
  exact hq
def rNextSpec : Vm.Spec := fun args h Q => ∃ (R : RId) (f : Fun) (which : Int), args = [.ptr R.iv 0, .v (.int .i64 which)] ∧ isRef h R f ∧ f.n ≤ 536870912 ∧
  (readOf f (seqKey which) < 0 ∨ 4294967294 < readOf f (seqKey which) → Q (.tup [.v (.int .i64 0), .v (.int .i64 9)]) h) ∧
  (¬ (readOf f (seqKey which) < 0 ∨ 4294967294 < readOf f (seqKey which)) → ∀ h', isRef h' R (upd f (seqKey which) (some (be 8 (readOf f (seqKey which) + 1)))) → Same h h' (rFoot R) →
    Q (.tup [.v (.int .i64 (readOf f (seqKey which) + 1)), .v (.int .i64 0)]) h')
theorem does_rNext : Does Tryz.prog 116 rNextSpec := by
  refine does_of_awp (good_cons does_rLast (good_cons does_rKey (good_cons does_rPack (good_cons does_rPut good_nil)))) Tryz.func116 rfl (by decide +kernel) (by decide +kernel) ?_
  rintro args h Q ⟨R, f, which, rfl, hR, hn, hq1, hq2⟩
  refine ⟨by simp [Tryz.f116], ?_⟩
  rw [awpFunc_some (by rfl)]
  have hr := readOf_range f (seqKey which)
  simp -dsimp only [Vm.E, List.lookup, Nat.reduceAdd, Nat.reduceBEq, Int.reduceBNe, Int.reduceBEq, Bool.true_beq, Bool.false_beq]
  refine call_one (S := rLastSpec) rfl _ GaL.rfl ⟨R, f, which, rfl, hR, hn, ?_⟩
  generalize readOf f (seqKey which) = n at hr hq1 hq2 ⊢
  unfold I64 at hr
  simp -dsimp only [Vm.E, List.lookup, Nat.reduceAdd, Nat.reduceBEq, Int.reduceBNe, Int.reduceBEq, Bool.true_beq, Bool.false_beq]
  cases c1 : decide (n < 0)
  · simp -dsimp only [Vm.E, List.lookup, Nat.reduceAdd, Nat.reduceBEq, Int.reduceBNe, Int.reduceBEq, Bool.true_beq, Bool.false_beq]
    cases c2 : decide (n > 4294967294)
    · have d1 := of_decide_eq_false c1
      have d2 := of_decide_eq_false c2
      have hw : IntKind.i64.wrap (n + 1) = n + 1 := wrap_i64 (by omega) (by omega)
      simp -dsimp only [Vm.E, List.lookup, Nat.reduceAdd, Nat.reduceBEq, Int.reduceBNe, Int.reduceBEq, Bool.true_beq, Bool.false_beq, es28]
      refine bs_intro zr3 (by decide) (by decide) rfl rfl (by simp [solid, AV.cells]) ?_
      simp -dsimp only [Vm.E, List.lookup, Nat.reduceAdd, Nat.reduceBEq, Int.reduceBNe, Int.reduceBEq, Bool.true_beq, Bool.false_beq]
      refine call_one (S := keySpec) rfl _ GaL.rfl ⟨83, [which], by simp, rfl, ?_⟩
      simp -dsimp only [Vm.E, List.lookup, Nat.reduceAdd, Nat.reduceBEq, Int.reduceBNe, Int.reduceBEq, Bool.true_beq, Bool.false_beq, hw, es28]
      refine bs_intro zr3 (by decide) (by decide) rfl rfl (by simp [solid, AV.cells]) ?_
      simp -dsimp only [Vm.E, List.lookup, Nat.reduceAdd, Nat.reduceBEq, Int.reduceBNe, Int.reduceBEq, Bool.true_beq, Bool.false_beq]
      refine call_one (S := packSpec) rfl _ GaL.rfl ⟨[n + 1], by simp, fun m hm => by simp at hm; subst hm; unfold I64; omega, rfl, ?_⟩
      simp only [packOf_one]
      simp -dsimp only [Vm.E, List.lookup, Nat.reduceAdd, Nat.reduceBEq, Int.reduceBNe, Int.reduceBEq, Bool.true_beq, Bool.false_beq]
      refine call_one (S := rPutSpec) rfl _ GaL.rfl ⟨R, f, seqKey which, be 8 (n + 1), rfl, hR, hn, fun _ h' g1 g2 => ?_, fun hc => by rw [right_seq] at hc; cases hc⟩
      simp -dsimp only [Vm.E, List.lookup, Nat.reduceAdd, Nat.reduceBEq, Int.reduceBNe, Int.reduceBEq, Bool.true_beq, Bool.false_beq, hw, Tryz.results116]
      exact hq2 (by omega) h' g1 g2
    · have d2 := of_decide_eq_true c2
      simp -dsimp only [Vm.E, List.lookup, Nat.reduceAdd, Nat.reduceBEq, Int.reduceBNe, Int.reduceBEq, Bool.true_beq, Bool.false_beq, Tryz.results116]
      exact hq1 (by omega)
  · have d1 := of_decide_eq_true c1
    simp -dsimp only [Vm.E, List.lookup, Nat.reduceAdd, Nat.reduceBEq, Int.reduceBNe, Int.reduceBEq, Bool.true_beq, Bool.false_beq, Tryz.results116]
    exact hq1 (by omega)
end Go.Proofs.Lx
/- The reference's pairs that begin so; two views beside. -/
set_option linter.unusedSimpArgs false
set_option linter.unusedVariables false
namespace Go.Proofs.Lx
open Go.Vm
attribute [local irreducible] awpArr awpBin awpMake awpAppend awpCvX awpStrOf awpBinX awpSlice awpBS awpStore awpAlloc awpCopy awpIndex awpDraw awpIdxX awpFa awpField awpLookup awpUpdate awpDelete awpClear awpRange awpNext awpEntry awpBuild awpClearS awpIdxL awpTree appB
abbrev preL (pre : List UInt8) (l : List KV) : List KV := l.filter fun p => pre.isPrefixOf p.1
def tScanSpec : Vm.Spec := fun args h Q => ∃ (i : Nat) (l : List KV) (pre : List UInt8), args = [.ptr i 0, .sl 1 (pre.map encB)] ∧ h[i]? = some (tabObj l) ∧ l.length ≤ 1073741824 ∧ pre.length ≤ 1073741824 ∧ (∀ p ∈ l, p.1.length ≤ 32) ∧
  Q (.own true 155 2 ((preL pre l).map kvAv)) h
set_option maxRecDepth 20000 in
set_option maxHeartbeats 4000000 in
theorem does_tScan : Does Tryz.prog 201 tScanSpec := by
  refine does_of_awp good_nil Tryz.func201 rfl (by decide +kernel) (by decide +kernel) ?_
  rintro args h Q ⟨id, l, pre, rfl, hh, hl, hpl, hk32, hq⟩
  unfold tabObj at hh
  refine ⟨by simp [Tryz.f201], ?_⟩
  rw [awpFunc_some (by rfl)]
  simp -dsimp only [Vm.E, List.lookup, Nat.reduceAdd, Nat.reduceBEq, Int.reduceBNe, Int.reduceBEq, Bool.true_beq, Bool.false_beq]
  refine awp_loop (fun m s h' => ∃ i : Nat, i + m = l.length ∧ h' = h ∧ s = mk [(0, .ptr id 0), (1, .sl 1 (pre.map encB)), (5, .own true 155 2 ((preL pre (l.take i)).map kvAv)), (6, .v (.int .i64 i))])
    l.length _ (le_mk _ ?_) ⟨0, by omega, rfl, rfl⟩ ?_
  · simp only [List.forall_mem_cons, List.not_mem_nil, false_imp_iff, implies_true, and_true]
    simp -dsimp only [Vm.E, List.lookup, Nat.reduceAdd, Nat.reduceBEq, Int.reduceBNe, Int.reduceBEq, Bool.true_beq, Bool.false_beq]
    exact ⟨.refl _, .refl _, .nil _ _ _ (by decide), .refl _⟩
  · rintro m s h' ⟨i, hi, rfl, rfl⟩
    simp -dsimp only [Vm.E, List.lookup, Nat.reduceAdd, Nat.reduceBEq, Int.reduceBNe, Int.reduceBEq, Bool.true_beq, Bool.false_beq, fo139_0, hh, of65, Tryz.underlying65]
    refine cond_intro (fun hcc => ?_) (fun hcc => ?_)
    · have hlt : i < l.length := by have := of_decide_eq_true hcc; omega
      have hw : IntKind.i64.wrap ((i : Int) + 1) = ((i + 1 : Nat) : Int) := by rw [wrap_i64 (by omega) (by omega)]; simp
      obtain ⟨p, hp⟩ : ∃ p, l[i] = p := ⟨_, rfl⟩
      have hkp := hk32 p (hp ▸ List.getElem_mem hlt)
      have hpre : (preL pre (l.take i)).length ≤ i := Nat.le_trans (List.length_filter_le ..) (by rw [List.length_take]; omega)
      have est : preL pre (l.take (i + 1)) = preL pre (l.take i) ++ if pre.isPrefixOf p.1 then [p] else [] := by
        rw [List.take_succ_eq_append_getElem hlt, preL, List.filter_append, hp, List.filter_cons, List.filter_nil]
      simp -dsimp only [Vm.E, List.lookup, Nat.reduceAdd, Nat.reduceBEq, Int.reduceBNe, Int.reduceBEq, Bool.true_beq, Bool.false_beq, fo139_0, hh, of65, es65, as65]
      refine idx_map kvAv l i hlt ?_
      simp only [hp, kvAv]
      simp -dsimp only [Vm.G, List.lookup, Nat.reduceAdd, Nat.reduceBEq, Int.reduceBNe, Int.reduceBEq, Nat.reduceLeDiff, AV.cells, fo155_0, of32]
      have e1 : (p.1.map encB).take (pre.length : Int).toNat = (p.1.take pre.length).map encB := by rw [Int.toNat_natCast, List.map_take]
      refine draw_cont [] (.take 0 (.take 1 (.take 2 (.take 3 (.take 4 (.take 5 (.take 6 (.take 7 (.take 8 (.take 9 (.take 11 (.alt 10 (.alt 12 (.take 13 (.take 14 (.done))) .stop) (.alt 12 (.alt 10 (.take 13 (.take 14 (.done))) .stop) (.stop)))))))))))))) (fun s hx => hx = h' ∧ s 39 = .v (.bool (pre.isPrefixOf p.1)) ∧ s 0 = .ptr id 0 ∧ s 1 = .sl 1 (pre.map encB) ∧ s 5 = .own true 155 2 ((preL pre (l.take i)).map kvAv) ∧ s 6 = .v (.int .i64 i)) (by kernel_rfl) (by kernel_rfl) (by kernel_rfl) (by decide) ?_ ?_
      · by_cases hle : pre.length ≤ p.1.length
        · have c1 : decide ((p.1.length : Int) ≥ pre.length) = true := decide_eq_true (by omega)
          simp only [← isPrefixOf_take p.1 pre hle]
          repeat' first
            | with_reducible exact True.intro
            | simp -dsimp only [Vm.E, List.lookup, Nat.reduceAdd, Nat.reduceBEq, Int.reduceBNe, Int.reduceBEq, Bool.true_beq, Bool.false_beq, c1, e1, Tryz.underlying32, cs32, str_eql, toList_mk]
            | refine strOf_sl bt32 pre rfl ?_
            | refine strOf_sl bt32 (p.1.take pre.length) rfl ?_
            | refine slice_h es32 (by omega) (by rw [List.length_map]; omega) ?_
            | refine tree_alt ?_ ?_
        · have c1 : decide ((p.1.length : Int) ≥ pre.length) = false := decide_eq_false (by omega)
          simp only [isPrefixOf_long p.1 pre hle]
          repeat' first
            | with_reducible exact True.intro
            | simp -dsimp only [Vm.E, List.lookup, Nat.reduceAdd, Nat.reduceBEq, Int.reduceBNe, Int.reduceBEq, Bool.true_beq, Bool.false_beq, c1, Tryz.underlying32]
            | refine tree_alt ?_ ?_
      · rintro s hx ⟨rfl, e39, e0, e1, e5, e6⟩
        cases hb : pre.isPrefixOf p.1
        · rw [hb] at e39 est
          simp only [Bool.false_eq_true, if_false, List.append_nil] at est
          simp -dsimp only [Vm.E, List.lookup, Nat.reduceAdd, Nat.reduceBEq, Int.reduceBNe, Int.reduceBEq, Bool.true_beq, Bool.false_beq, e39, e0, e1, e5, e6]
          refine kept_intro ⟨l.length - (i + 1), by omega, _, le_mk [(0, .ptr id 0), (1, .sl 1 (pre.map encB)), (5, .own true 155 2 ((preL pre (l.take (i + 1))).map kvAv)), (6, .v (.int .i64 (i + 1 : Nat)))] ?_, i + 1, by omega, rfl, rfl⟩
          simp only [List.forall_mem_cons, List.not_mem_nil, false_imp_iff, implies_true, and_true, est]
          simp -dsimp only [Vm.E, List.lookup, Nat.reduceAdd, Nat.reduceBEq, Int.reduceBNe, Int.reduceBEq, Bool.true_beq, Bool.false_beq, e39, e0, e1, e5, e6, hw]
          exact ⟨.refl _, .refl _, .refl _, .refl _⟩
        · rw [hb] at e39 est
          simp only [if_true] at est
          simp -dsimp only [Vm.E, List.lookup, Nat.reduceAdd, Nat.reduceBEq, Int.reduceBNe, Int.reduceBEq, Bool.true_beq, Bool.false_beq, e39, e0, e1, e5, e6, fo139_0, hh, of65, es65, as65]
          refine idx_map kvAv l i hlt ?_
          simp only [hp, kvAv]
          simp -dsimp only [Vm.E, List.lookup, Nat.reduceAdd, Nat.reduceBEq, Int.reduceBNe, Int.reduceBEq, Bool.true_beq, Bool.false_beq, e39, e0, e1, e5, e6, Vm.S, Nat.reduceLeDiff, AV.cells, of155, es65]
          refine bs_intro zr155 (by decide) (by decide) rfl rfl (by simp [solid, AV.cells]) ?_
          simp -dsimp only [Vm.E, List.lookup, Nat.reduceAdd, Nat.reduceBEq, Int.reduceBNe, Int.reduceBEq, Bool.true_beq, Bool.false_beq, e39, e0, e1, e5, e6, append_own ei65]
          refine app_sl Tryz.underlying65 (by simp [AV.cells]) (by simp only [List.length_map, List.length_cons, List.length_nil]; omega) ?_
          simp -dsimp only [Vm.E, List.lookup, Nat.reduceAdd, Nat.reduceBEq, Int.reduceBNe, Int.reduceBEq, Bool.true_beq, Bool.false_beq, e39, e0, e1, e5, e6]
          refine kept_intro ⟨l.length - (i + 1), by omega, _, le_mk [(0, .ptr id 0), (1, .sl 1 (pre.map encB)), (5, .own true 155 2 ((preL pre (l.take (i + 1))).map kvAv)), (6, .v (.int .i64 (i + 1 : Nat)))] ?_, i + 1, by omega, rfl, rfl⟩
          simp only [List.forall_mem_cons, List.not_mem_nil, false_imp_iff, implies_true, and_true, est, List.map_append, List.map_cons, List.map_nil, kvAv]
          simp -dsimp only [Vm.E, List.lookup, Nat.reduceAdd, Nat.reduceBEq, Int.reduceBNe, Int.reduceBEq, Bool.true_beq, Bool.false_beq, e39, e0, e1, e5, e6, hw]
          exact ⟨.refl _, .refl _, .refl _, .refl _⟩
    · have hge : ¬ i < l.length := by have := of_decide_eq_false hcc; omega
      simp -dsimp only [Vm.E, List.lookup, Nat.reduceAdd, Nat.reduceBEq, Int.reduceBNe, Int.reduceBEq, Bool.true_beq, Bool.false_beq, Tryz.results201]
      rw [List.take_of_length_le (by omega)]
      exact hq
def rScanSpec : Vm.Spec := fun args h Q => ∃ (R : RId) (f : Fun) (pre : List UInt8), args = [.ptr R.iv 0, .sl 1 (pre.map encB)] ∧ pre.length ≤ 1073741824 ∧ isRef h R f ∧ f.n ≤ 536870912 ∧
  ∀ l, ScanIs f pre l → l.length ≤ f.n → Q (.own true 155 2 (l.map kvAv)) h
theorem does_rScan : Does Tryz.prog 125 rScanSpec := by
  refine does_of_awp (good_cons does_tScan good_nil) Tryz.func125 rfl (by decide +kernel) (by decide +kernel) ?_
  rintro args h Q ⟨R, f, pre, rfl, hpl, hR, hn, hq⟩
  refine ⟨by simp [Tryz.f125], ?_⟩
  rw [awpFunc_some (by rfl)]
  obtain ⟨lw, ln, lt, h1, h2, h3, h4, h5, h6, h7, h8⟩ := hR
  simp -dsimp only [Vm.G, List.lookup, Nat.reduceAdd, Nat.reduceBEq, Int.reduceBNe, Int.reduceBEq, Nat.reduceLeDiff, fo141_1, h1, of137]
  refine call_one (S := tScanSpec) rfl _ GaL.rfl ⟨R.inn, ln, pre, rfl, h3, by omega, hpl, fun p hp => (h8 p hp).1, ?_⟩
  simp -dsimp only [Vm.E, List.lookup, Nat.reduceAdd, Nat.reduceBEq, Int.reduceBNe, Int.reduceBEq, Bool.true_beq, Bool.false_beq, Tryz.results125]
  exact hq _ (h6.scan pre) (Nat.le_trans (List.length_filter_le ..) h7.1)
def Both (h : Heap) (V : VId) (R : RId) (f : Fun) : Prop := isView h V f ∧ isRef h R f ∧ (∀ i ∈ [V.iv, V.ic, V.im], i ∉ [R.iv, R.iw, R.inn, R.it])
theorem get_lt {h : Heap} {i : Nat} {o : AObj} (hx : h[i]? = some o) : i < h.length := by
  rcases Nat.lt_or_ge i h.length with h' | h'
  · exact h'
  · rw [List.getElem?_eq_none h'] at hx; cases hx
theorem Same.get {h h' : Heap} {fp : List Nat} (hs : Same h h' fp) {i : Nat} {o : AObj} (hx : h[i]? = some o) (hi : i ∉ fp) : h'[i]? = some o := by rw [hs.2 i (get_lt hx) hi]; exact hx
theorem isView.same {h h' : Heap} {V : VId} {f : Fun} {fp : List Nat} (hV : isView h V f) (hs : Same h h' fp) (hd : ∀ i ∈ [V.iv, V.ic, V.im], i ∉ fp) : isView h' V f := by
  obtain ⟨chg, clk, mem, clk2, h1, h2, h3, h4⟩ := hV
  exact ⟨chg, clk, mem, clk2, hs.get h1 (hd _ (by simp)), hs.get h2 (hd _ (by simp)), hs.get h3 (hd _ (by simp)), h4⟩
theorem isRef.same {h h' : Heap} {R : RId} {f : Fun} {fp : List Nat} (hR : isRef h R f) (hs : Same h h' fp) (hd : ∀ i ∈ [R.iv, R.iw, R.inn, R.it], i ∉ fp) : isRef h' R f := by
  obtain ⟨lw, ln, lt, h1, h2, h3, h4, h5⟩ := hR
  exact ⟨lw, ln, lt, hs.get h1 (hd _ (by simp)), hs.get h2 (hd _ (by simp)), hs.get h3 (hd _ (by simp)), hs.get h4 (hd _ (by simp)), h5⟩
theorem Both.view {h h' : Heap} {V : VId} {R : RId} {f g : Fun} (hB : Both h V R f) (hV : isView h' V g) (hs : Same h h' [V.ic]) : isRef h' R f := by
  refine hB.2.1.same hs fun i hi hm => ?_
  rw [List.mem_singleton] at hm; subst hm
  exact hB.2.2 V.ic (by simp) hi
theorem Both.ref {h h' h2 : Heap} {V : VId} {R : RId} {f g : Fun} (hB : Both h V R f) (hV : isView h' V g) (hR : isRef h2 R g) (hs : Same h' h2 (rFoot R)) : Both h2 V R g := by
  refine ⟨hV.same hs fun i hi hm => ?_, hR, hB.2.2⟩
  refine hB.2.2 i hi ?_
  simp [rFoot] at hm ⊢
  rcases hm with rfl | rfl <;> simp
theorem Both.quiet {h h' : Heap} {V : VId} {R : RId} {f : Fun} (hB : Both h V R f) (hV : isView h' V f) (hs : Same h h' []) : Both h' V R f :=
  ⟨hV, hB.2.1.same hs (by simp), hB.2.2⟩
end Go.Proofs.Lx
/- exchequerplain: few pairs, the same pairs. -/
set_option linter.unusedSimpArgs false
set_option linter.unusedVariables false
namespace Go.Proofs.Lx
open Go.Vm
attribute [local irreducible] awpArr awpBin awpMake awpAppend awpCvX awpStrOf awpBinX awpSlice awpBS awpStore awpAlloc awpCopy awpIndex awpDraw awpIdxX awpFa awpField awpLookup awpUpdate awpDelete awpClear awpRange awpNext awpEntry awpBuild awpClearS awpIdxL
/-- A question of a pair. -/
def askKV (p : KV → Bool) : Vm.Spec := fun args h Q => ∃ x : KV, args = [kvAv x] ∧ Q (.v (.bool (p x))) h
def ixSSpec (T : Tab) : Vm.Spec := fun args h Q => ∃ (g : FuncId) (p : KV → Bool) (l : List KV), T g = some (askKV p) ∧ l.length ≤ 9223372036854775807 ∧ args = [.sl 2 (l.map kvAv), .clo g []] ∧ ∀ i : Int, (l.any p = true ↔ 0 ≤ i) → Q (.v (.int .i64 i)) h
theorem does_ixS {T : Tab} (hT : Good T) : Does Tryz.prog 194 (ixSSpec T) := by
  refine does_of_awp hT Tryz.func194 rfl (by decide +kernel) (by decide +kernel) ?_
  rintro args h Q ⟨g, p, l, hg, hl, rfl, hq⟩
  refine ⟨by simp [Tryz.f194], ?_⟩
  rw [awpFunc_some (by rfl)]
  simp -dsimp only [Vm.E, List.lookup, Nat.reduceAdd, Nat.reduceBEq, Int.reduceBNe, Int.reduceBEq, Bool.true_beq, Bool.false_beq, Tryz.underlying65]
  refine awp_loop (fun m s h' => ∃ i : Nat, i + m = l.length ∧ h' = h ∧ (∀ j (hj : j < l.length), j < i → p l[j] = false) ∧ s = mk [(0, .sl 2 (l.map kvAv)), (1, .clo g []), (7, .v (.int .i64 l.length)), (8, .v (.int .i64 i))])
    l.length _ (le_mk _ ?_) ⟨0, by omega, rfl, fun j _ hj => by omega, rfl⟩ ?_
  · simp only [List.forall_mem_cons, List.not_mem_nil, false_imp_iff, implies_true, and_true]
    simp -dsimp only [Vm.E, List.lookup, Nat.reduceAdd, Nat.reduceBEq, Int.reduceBNe, Int.reduceBEq, Bool.true_beq, Bool.false_beq]
    exact ⟨.refl _, .refl _, .refl _, .refl _⟩
  · rintro m s h' ⟨i, hi, rfl, hb, rfl⟩
    simp -dsimp only [Vm.E, List.lookup, Nat.reduceAdd, Nat.reduceBEq, Int.reduceBNe, Int.reduceBEq, Bool.true_beq, Bool.false_beq]
    refine cond_intro (fun hcc => ?_) (fun hcc => ?_)
    · have hlt : i < l.length := by have := of_decide_eq_true hcc; omega
      obtain ⟨x, hx⟩ : ∃ x, l[i] = x := ⟨_, rfl⟩
      have hw : IntKind.i64.wrap ((i : Int) + 1) = ((i + 1 : Nat) : Int) := by rw [wrap_i64 (by omega) (by omega)]; simp
      simp -dsimp only [Vm.E, List.lookup, Nat.reduceAdd, Nat.reduceBEq, Int.reduceBNe, Int.reduceBEq, Bool.true_beq, Bool.false_beq, es65, as65]
      refine idx_map kvAv l i hlt ?_
      simp only [hx, kvAv]
      simp -dsimp only [Vm.G, List.lookup, Nat.reduceAdd, Nat.reduceBEq, Int.reduceBNe, Int.reduceBEq, Nat.reduceLeDiff, q194, AV.cells]
      refine call_one (S := askKV p) hg _ GaL.rfl ⟨x, rfl, ?_⟩
      cases hp : p x
      · simp -dsimp only [Vm.E, List.lookup, Nat.reduceAdd, Nat.reduceBEq, Int.reduceBNe, Int.reduceBEq, Bool.true_beq, Bool.false_beq, hw]
        refine kept_intro ⟨l.length - (i + 1), by omega, _, le_mk [(0, .sl 2 (l.map kvAv)), (1, .clo g []), (7, .v (.int .i64 l.length)), (8, .v (.int .i64 (i + 1 : Nat)))] ?_, i + 1, by omega, rfl, fun j hj hj2 => ?_, rfl⟩
        · simp only [List.forall_mem_cons, List.not_mem_nil, false_imp_iff, implies_true, and_true]
          simp -dsimp only [Vm.E, List.lookup, Nat.reduceAdd, Nat.reduceBEq, Int.reduceBNe, Int.reduceBEq, Bool.true_beq, Bool.false_beq]
          exact ⟨.refl _, .refl _, .refl _, .refl _⟩
        · by_cases hji : j = i
          · subst hji; rw [hx]; exact hp
          · exact hb j hj (by omega)
      · simp -dsimp only [Vm.E, List.lookup, Nat.reduceAdd, Nat.reduceBEq, Int.reduceBNe, Int.reduceBEq, Bool.true_beq, Bool.false_beq, Tryz.results194]
        exact hq _ ⟨fun _ => by omega, fun _ => List.any_eq_true.2 ⟨x, hx ▸ List.getElem_mem hlt, hp⟩⟩
    · have hge : ¬ i < l.length := by have := of_decide_eq_false hcc; omega
      simp -dsimp only [Vm.E, List.lookup, Nat.reduceAdd, Nat.reduceBEq, Int.reduceBNe, Int.reduceBEq, Bool.true_beq, Bool.false_beq, Tryz.results194]
      refine hq _ ⟨fun hm => ?_, fun h0 => by omega⟩
      obtain ⟨x, hx, hp⟩ := List.any_eq_true.1 hm
      obtain ⟨j, hj, rfl⟩ := List.getElem_of_mem hx
      rw [hb j hj (by omega)] at hp; cases hp
def hasSSpec (T : Tab) : Vm.Spec := fun args h Q => ∃ (g : FuncId) (p : KV → Bool) (l : List KV), T g = some (askKV p) ∧ l.length ≤ 9223372036854775807 ∧ args = [.sl 2 (l.map kvAv), .clo g []] ∧ Q (.v (.bool (l.any p))) h
theorem does_hasS {T : Tab} (hT : Good T) : Does Tryz.prog 113 (hasSSpec T) := by
  refine does_of_awp (good_cons (does_ixS hT) good_nil) Tryz.func113 rfl (by decide +kernel) (by decide +kernel) ?_
  rintro args h Q ⟨g, p, l, hg, hl, rfl, hq⟩
  refine ⟨by simp [Tryz.f113], ?_⟩
  rw [awpFunc_some (by rfl)]
  simp -dsimp only [Vm.E, List.lookup, Nat.reduceAdd, Nat.reduceBEq, Int.reduceBNe, Int.reduceBEq, Bool.true_beq, Bool.false_beq]
  refine call_one (S := ixSSpec T) rfl _ GaL.rfl ⟨g, p, l, hg, hl, rfl, fun i hi => ?_⟩
  have e : decide (i ≥ 0) = l.any p := by
    cases hx : l.any p
    · rw [hx] at hi; exact decide_eq_false fun h0 => by have := hi.2 h0; cases this
    · exact decide_eq_true (hi.1 hx)
  simp -dsimp only [Vm.E, List.lookup, Nat.reduceAdd, Nat.reduceBEq, Int.reduceBNe, Int.reduceBEq, Bool.true_beq, Bool.false_beq, Tryz.results113, e]
  exact hq
def longKV (p : KV) : Bool := decide (200 < p.1.length) || decide (400 < p.2.length)
theorem does_few1 : Does Tryz.prog 114 (askKV longKV) := by
  refine does_of_awp good_nil Tryz.func114 rfl (by decide +kernel) (by decide +kernel) ?_
  rintro args h Q ⟨⟨k, v⟩, rfl, hq⟩
  refine ⟨by simp [Tryz.f114], ?_⟩
  rw [awpFunc_some (by rfl)]
  simp only [kvAv]
  unfold longKV at hq
  simp -dsimp only [Vm.G, List.lookup, Nat.reduceAdd, Nat.reduceBEq, Int.reduceBNe, Int.reduceBEq, Nat.reduceLeDiff, fo155_0, of32, Tryz.underlying32]
  by_cases d1 : 200 < k.length
  · have c1 : decide ((k.length : Int) > 200) = true := decide_eq_true (by omega)
    simp -dsimp only [Vm.G, List.lookup, Nat.reduceAdd, Nat.reduceBEq, Int.reduceBNe, Int.reduceBEq, Nat.reduceLeDiff, c1, Tryz.results114]
    simpa [d1] using hq
  · have c1 : decide ((k.length : Int) > 200) = false := decide_eq_false (by omega)
    by_cases d2 : 400 < v.length
    · have c2 : decide ((v.length : Int) > 400) = true := decide_eq_true (by omega)
      simp -dsimp only [Vm.G, List.lookup, Nat.reduceAdd, Nat.reduceBEq, Int.reduceBNe, Int.reduceBEq, Nat.reduceLeDiff, c1, c2, fo155_1, of32, Tryz.underlying32, Tryz.results114]
      simpa [d1, d2] using hq
    · have c2 : decide ((v.length : Int) > 400) = false := decide_eq_false (by omega)
      simp -dsimp only [Vm.G, List.lookup, Nat.reduceAdd, Nat.reduceBEq, Int.reduceBNe, Int.reduceBEq, Nat.reduceLeDiff, c1, c2, fo155_1, of32, Tryz.underlying32, Tryz.results114]
      simpa [d1, d2] using hq
def fewT : Tab := tab [(114, askKV longKV)]
theorem good_fewT : Good fewT := good_cons does_few1 good_nil
def fewOf (l : List KV) (many : Int) : Bool := decide ((l.length : Int) ≤ many) && !(l.any longKV)
def fewSpec : Vm.Spec := fun args h Q => ∃ (l : List KV) (many : Int), l.length ≤ 9223372036854775807 ∧ args = [.sl 2 (l.map kvAv), .v (.int .i64 many)] ∧ Q (.v (.bool (fewOf l many))) h
theorem does_few : Does Tryz.prog 40 fewSpec := by
  refine does_of_awp (good_cons (does_hasS good_fewT) good_nil) Tryz.func40 rfl (by decide +kernel) (by decide +kernel) ?_
  rintro args h Q ⟨l, many, hl, rfl, hq⟩
  refine ⟨by simp [Tryz.f40], ?_⟩
  rw [awpFunc_some (by rfl)]
  unfold fewOf at hq
  simp -dsimp only [Vm.E, List.lookup, Nat.reduceAdd, Nat.reduceBEq, Int.reduceBNe, Int.reduceBEq, Bool.true_beq, Bool.false_beq, Tryz.underlying65]
  cases c1 : decide ((l.length : Int) ≤ many)
  · rw [c1] at hq
    simp -dsimp only [Vm.E, List.lookup, Nat.reduceAdd, Nat.reduceBEq, Int.reduceBNe, Int.reduceBEq, Bool.true_beq, Bool.false_beq, Tryz.results40]
    exact hq
  · rw [c1] at hq
    simp -dsimp only [Vm.E, List.lookup, Nat.reduceAdd, Nat.reduceBEq, Int.reduceBNe, Int.reduceBEq, Bool.true_beq, Bool.false_beq]
    refine call_one (S := hasSSpec fewT) rfl _ GaL.rfl ⟨114, longKV, l, rfl, hl, rfl, ?_⟩
    simp -dsimp only [Vm.E, List.lookup, Nat.reduceAdd, Nat.reduceBEq, Int.reduceBNe, Int.reduceBEq, Bool.true_beq, Bool.false_beq, Tryz.results40]
    exact hq
def eqKVSpec : Vm.Spec := fun args h Q => ∃ x y : KV, args = [kvAv x, kvAv y] ∧ Q (.v (.bool (x.1 == y.1 && x.2 == y.2))) h
theorem does_eqKV : Does Tryz.prog 203 eqKVSpec := by
  refine does_of_awp (good_cons does_equal good_nil) Tryz.func203 rfl (by decide +kernel) (by decide +kernel) ?_
  rintro args h Q ⟨⟨k, v⟩, ⟨k2, v2⟩, rfl, hq⟩
  refine ⟨by simp [Tryz.f203], ?_⟩
  rw [awpFunc_some (by rfl)]
  simp only [kvAv]
  simp -dsimp only [Vm.G, List.lookup, Nat.reduceAdd, Nat.reduceBEq, Int.reduceBNe, Int.reduceBEq, Nat.reduceLeDiff, fo155_0, of32]
  refine call_one (S := equalSpec) rfl _ GaL.rfl ⟨k, k2, rfl, ?_⟩
  simp -dsimp only [Vm.E, List.lookup, Nat.reduceAdd, Nat.reduceBEq, Int.reduceBNe, Int.reduceBEq, Bool.true_beq, Bool.false_beq]
  cases c1 : (k == k2)
  · simp only [c1] at hq
    simp -dsimp only [Vm.G, List.lookup, Nat.reduceAdd, Nat.reduceBEq, Int.reduceBNe, Int.reduceBEq, Nat.reduceLeDiff, Tryz.results203]
    exact hq
  · simp only [c1] at hq
    simp -dsimp only [Vm.G, List.lookup, Nat.reduceAdd, Nat.reduceBEq, Int.reduceBNe, Int.reduceBEq, Nat.reduceLeDiff, fo155_1, of32]
    refine call_one (S := equalSpec) rfl _ GaL.rfl ⟨v, v2, rfl, ?_⟩
    simp -dsimp only [Vm.E, List.lookup, Nat.reduceAdd, Nat.reduceBEq, Int.reduceBNe, Int.reduceBEq, Bool.true_beq, Bool.false_beq, Tryz.results203]
    exact hq
def eqFSpec : Vm.Spec := fun args h Q => ∃ l l' : List KV, l.length ≤ 9223372036854775807 ∧ args = [.sl 2 (l.map kvAv), .sl 2 (l'.map kvAv), .clo 203 []] ∧ Q (.v (.bool (decide (l = l')))) h
set_option maxHeartbeats 1000000 in
theorem does_eqF : Does Tryz.prog 202 eqFSpec := by
  refine does_of_awp (good_cons does_eqKV good_nil) Tryz.func202 rfl (by decide +kernel) (by decide +kernel) ?_
  rintro args h Q ⟨l, l', hl, rfl, hq⟩
  refine ⟨by simp [Tryz.f202], ?_⟩
  rw [awpFunc_some (by rfl)]
  simp -dsimp only [Vm.E, List.lookup, Nat.reduceAdd, Nat.reduceBEq, Int.reduceBNe, Int.reduceBEq, Bool.true_beq, Bool.false_beq, Tryz.underlying65]
  by_cases hlen : l.length = l'.length
  · have c1 : ((l.length : Int) != l'.length) = false := by simp [hlen]
    simp -dsimp only [Vm.E, List.lookup, Nat.reduceAdd, Nat.reduceBEq, Int.reduceBNe, Int.reduceBEq, Bool.true_beq, Bool.false_beq, c1, Tryz.underlying65]
    refine awp_loop (fun m s h' => ∃ i : Nat, i + m = l.length ∧ h' = h ∧ (∀ j (hj : j < l.length), j < i → l[j] = l'[j]'(by omega)) ∧ s = mk [(1, .sl 2 (l'.map kvAv)), (2, .clo 203 []), (15, .sl 2 (l.map kvAv)), (16, .v (.int .i64 l.length)), (17, .v (.int .i64 i))])
      l.length _ (le_mk _ ?_) ⟨0, by omega, rfl, fun j _ hj => by omega, rfl⟩ ?_
    · simp only [List.forall_mem_cons, List.not_mem_nil, false_imp_iff, implies_true, and_true]
      simp -dsimp only [Vm.E, List.lookup, Nat.reduceAdd, Nat.reduceBEq, Int.reduceBNe, Int.reduceBEq, Bool.true_beq, Bool.false_beq]
      exact ⟨.refl _, .refl _, .refl _, .refl _, .refl _⟩
    · rintro m s h' ⟨i, hi, rfl, hb, rfl⟩
      simp -dsimp only [Vm.E, List.lookup, Nat.reduceAdd, Nat.reduceBEq, Int.reduceBNe, Int.reduceBEq, Bool.true_beq, Bool.false_beq]
      refine cond_intro (fun hcc => ?_) (fun hcc => ?_)
      · have hlt : i < l.length := by have := of_decide_eq_true hcc; omega
        have hlt' : i < l'.length := by omega
        obtain ⟨x, hx⟩ : ∃ x, l[i] = x := ⟨_, rfl⟩
        obtain ⟨y, hy⟩ : ∃ y, l'[i] = y := ⟨_, rfl⟩
        have hw : IntKind.i64.wrap ((i : Int) + 1) = ((i + 1 : Nat) : Int) := by rw [wrap_i64 (by omega) (by omega)]; simp
        simp -dsimp only [Vm.E, List.lookup, Nat.reduceAdd, Nat.reduceBEq, Int.reduceBNe, Int.reduceBEq, Bool.true_beq, Bool.false_beq, es65, as65]
        refine idx_map kvAv l i hlt ?_
        simp only [hx, kvAv]
        simp -dsimp only [Vm.G, List.lookup, Nat.reduceAdd, Nat.reduceBEq, Int.reduceBNe, Int.reduceBEq, Nat.reduceLeDiff, AV.cells, of155, al155, sz155, es65, as65]
        refine idx_map kvAv l' i hlt' ?_
        simp only [hy, kvAv]
        simp -dsimp only [Vm.G, List.lookup, Nat.reduceAdd, Nat.reduceBEq, Int.reduceBNe, Int.reduceBEq, Nat.reduceLeDiff, AV.cells, of155, al155, sz155]
        refine call_one (S := eqKVSpec) rfl _ GaL.rfl ⟨x, y, rfl, ?_⟩
        cases he : (x.1 == y.1 && x.2 == y.2)
        · have hne : ¬ l = l' := fun e => by
            subst e
            rw [← hx, ← hy] at he
            simp at he
          rw [decide_eq_false hne] at hq
          simp -dsimp only [Vm.E, List.lookup, Nat.reduceAdd, Nat.reduceBEq, Int.reduceBNe, Int.reduceBEq, Bool.true_beq, Bool.false_beq, Tryz.results202]
          exact hq
        · have hxy : x = y := by
            simp only [Bool.and_eq_true, beq_iff_eq] at he
            exact Prod.ext he.1 he.2
          simp -dsimp only [Vm.E, List.lookup, Nat.reduceAdd, Nat.reduceBEq, Int.reduceBNe, Int.reduceBEq, Bool.true_beq, Bool.false_beq, hw]
          refine kept_intro ⟨l.length - (i + 1), by omega, _, le_mk [(1, .sl 2 (l'.map kvAv)), (2, .clo 203 []), (15, .sl 2 (l.map kvAv)), (16, .v (.int .i64 l.length)), (17, .v (.int .i64 (i + 1 : Nat)))] ?_, i + 1, by omega, rfl, fun j hj hj2 => ?_, rfl⟩
          · simp only [List.forall_mem_cons, List.not_mem_nil, false_imp_iff, implies_true, and_true]
            simp -dsimp only [Vm.E, List.lookup, Nat.reduceAdd, Nat.reduceBEq, Int.reduceBNe, Int.reduceBEq, Bool.true_beq, Bool.false_beq]
            exact ⟨.refl _, .refl _, .refl _, .refl _, .refl _⟩
          · by_cases hji : j = i
            · subst hji; rw [hx, hy]; exact hxy
            · exact hb j hj (by omega)
      · have hge : ¬ i < l.length := by have := of_decide_eq_false hcc; omega
        have he : l = l' := List.ext_getElem hlen fun j h1 h2 => hb j h1 (by omega)
        rw [decide_eq_true he] at hq
        simp -dsimp only [Vm.E, List.lookup, Nat.reduceAdd, Nat.reduceBEq, Int.reduceBNe, Int.reduceBEq, Bool.true_beq, Bool.false_beq, Tryz.results202]
        exact hq
  · have c1 : ((l.length : Int) != l'.length) = true := by simp; omega
    rw [decide_eq_false fun e => hlen (by rw [e])] at hq
    simp -dsimp only [Vm.E, List.lookup, Nat.reduceAdd, Nat.reduceBEq, Int.reduceBNe, Int.reduceBEq, Bool.true_beq, Bool.false_beq, c1, Tryz.results202]
    exact hq
def pairsSpec : Vm.Spec := fun args h Q => ∃ l l' : List KV, l.length ≤ 9223372036854775807 ∧ args = [.sl 2 (l.map kvAv), .sl 2 (l'.map kvAv)] ∧ Q (.v (.bool (decide (l = l')))) h
theorem does_pairs : Does Tryz.prog 126 pairsSpec := by
  refine does_of_awp (good_cons does_eqF good_nil) Tryz.func126 rfl (by decide +kernel) (by decide +kernel) ?_
  rintro args h Q ⟨l, l', hl, rfl, hq⟩
  refine ⟨by simp [Tryz.f126], ?_⟩
  rw [awpFunc_some (by rfl)]
  simp -dsimp only [Vm.E, List.lookup, Nat.reduceAdd, Nat.reduceBEq, Int.reduceBNe, Int.reduceBEq, Bool.true_beq, Bool.false_beq]
  refine call_one (S := eqFSpec) rfl _ GaL.rfl ⟨l, l', hl, rfl, ?_⟩
  simp -dsimp only [Vm.E, List.lookup, Nat.reduceAdd, Nat.reduceBEq, Int.reduceBNe, Int.reduceBEq, Bool.true_beq, Bool.false_beq, Tryz.results126]
  exact hq
def sameSpec : Vm.Spec := fun args h Q => ∃ (V : VId) (R : RId) (f : Fun), args = [.ptr V.iv 0, .ptr R.iv 0] ∧ Both h V R f ∧ f.n ≤ 536870912 ∧ ∀ h', Both h' V R f → Q (.v (.bool true)) h'
theorem does_same : Does Tryz.prog 54 sameSpec := by
  refine does_of_awp (good_cons does_scan (good_cons does_rScan (good_cons does_pairs good_nil))) Tryz.func54 rfl (by decide +kernel) (by decide +kernel) ?_
  rintro args h Q ⟨V, R, f, rfl, hB, hn, hq⟩
  refine ⟨by simp [Tryz.f54], ?_⟩
  rw [awpFunc_some (by rfl)]
  simp -dsimp only [Vm.E, List.lookup, Nat.reduceAdd, Nat.reduceBEq, Int.reduceBNe, Int.reduceBEq, Bool.true_beq, Bool.false_beq]
  refine call_one (S := scanSpec) rfl _ (.cons (.refl _) (.cons (.nil 1) .nil)) ⟨V, f, [], rfl, by simp, hB.1, hn, fun l h1 hsc hln hV1 hs1 => ?_⟩
  have hB1 := hB.quiet hV1 hs1
  simp -dsimp only [Vm.E, List.lookup, Nat.reduceAdd, Nat.reduceBEq, Int.reduceBNe, Int.reduceBEq, Bool.true_beq, Bool.false_beq]
  refine call_one (S := rScanSpec) rfl _ (.cons (.refl _) (.cons (.nil 1) .nil)) ⟨R, f, [], rfl, by simp, hB1.2.1, hn, fun l' hsc' hln' => ?_⟩
  obtain rfl := hsc.same hsc'
  simp -dsimp only [Vm.E, List.lookup, Nat.reduceAdd, Nat.reduceBEq, Int.reduceBNe, Int.reduceBEq, Bool.true_beq, Bool.false_beq]
  refine call_one (S := pairsSpec) rfl _ GaL.rfl ⟨l, l, by omega, rfl, ?_⟩
  simp -dsimp only [Vm.E, List.lookup, Nat.reduceAdd, Nat.reduceBEq, Int.reduceBNe, Int.reduceBEq, Bool.true_beq, Bool.false_beq, decide_true, Tryz.results54]
  exact hq _ hB1
end Go.Proofs.Lx
/- Years: the reference's list; two lists of numbers. -/
set_option linter.unusedSimpArgs false
set_option linter.unusedVariables false
namespace Go.Proofs.Lx
open Go.Vm
attribute [local irreducible] awpArr awpBin awpMake awpAppend awpCvX awpStrOf awpBinX awpSlice awpBS awpStore awpAlloc awpCopy awpIndex awpDraw awpIdxX awpFa awpField awpLookup awpUpdate awpDelete awpClear awpRange awpNext awpEntry awpBuild awpClearS awpIdxL awpTree
theorem num4_cons (t : UInt8) (r : List UInt8) (i : Nat) (h : 4 * i + 4 ≤ r.length) : getRes (t :: r) ((1 + 4 * i : Nat) : Int) 4 = [.v (.int .i64 (num4 r i)), .v (.int .i64 0)] := by
  unfold getRes num4
  rw [if_neg (by simp [sized]; omega), if_neg (by simp only [List.length_cons]; omega), Int.toNat_natCast]
  rw [show 1 + 4 * i = (4 * i) + 1 by omega, List.drop_succ_cons]
  rfl
theorem does_rSplit : Does Tryz.prog 274 splitSpec := by
  refine does_of_awpO 1 (good_cons does_refGet good_nil) Tryz.func274 rfl (by decide +kernel) (by decide +kernel) ?_
  rintro args h Q ⟨b, hl, rfl, hq0, hq⟩
  refine ⟨by simp [Tryz.f274], ?_⟩
  rw [awpFuncO_some (by rfl)]
  simp -dsimp only [Vm.E, List.lookup, Nat.reduceAdd, Nat.reduceBEq, Int.reduceBNe, Int.reduceBEq, Bool.true_beq, Bool.false_beq, Tryz.underlying32]
  cases b with
  | nil =>
    have c1 : decide (((0 : Nat) : Int) < 1) = true := rfl
    simp -dsimp only [Vm.G, List.lookup, Nat.reduceAdd, Nat.reduceBEq, Int.reduceBNe, Int.reduceBEq, Nat.reduceLeDiff, q274, c1]
    exact hq0 rfl
  | cons t r =>
    have c1 : decide (((r.length + 1 : Nat) : Int) < 1) = false := decide_eq_false (by omega)
    simp -dsimp only [Vm.G, List.lookup, Nat.reduceAdd, Nat.reduceBEq, Int.reduceBNe, Int.reduceBEq, Nat.reduceLeDiff, q274, c1]
    unfold splitOf at hq0 hq
    by_cases d2 : r.length ≤ 28
    · have c2 : decide (((r.length + 1 : Nat) : Int) > 29) = false := decide_eq_false (by omega)
      simp -dsimp only [Vm.G, List.lookup, Nat.reduceAdd, Nat.reduceBEq, Int.reduceBNe, Int.reduceBEq, Nat.reduceLeDiff, q274, c2]
      refine rem_intro (by decide) ?_
      have e2 : ((r.length + 1 : Nat) : Int).tmod 4 = (((r.length + 1) % 4 : Nat) : Int) := by rw [Int.tmod_eq_emod_of_nonneg (by omega)]; omega
      simp only [e2]
      by_cases d1 : r.length % 4 = 0
      · have c3 : ((((r.length + 1) % 4 : Nat) : Int) != 1) = false := by
          have : (r.length + 1) % 4 = 1 := by omega
          rw [this]; rfl
        have hq' := hq t (numsK r (r.length / 4)) (if_pos ⟨d1, d2⟩)
        clear hq hq0
        obtain ⟨k, hk⟩ : ∃ k, r.length = 4 * k := ⟨r.length / 4, by omega⟩
        rw [show r.length / 4 = k by omega] at hq'
        simp -dsimp only [Vm.G, List.lookup, Nat.reduceAdd, Nat.reduceBEq, Int.reduceBNe, Int.reduceBEq, Nat.reduceLeDiff, q274, c3]
        refine awp_loop (fun m s h' => ∃ i : Nat, i + m = k ∧ h' = h ∧ s = mk [(0, .sl 1 ((t :: r).map encB)), (5, .own true 3 1 ((numsK r i).map encI)), (6, .v (.int .i64 (1 + 4 * i : Nat)))])
          k _ (le_mk _ ?_) ⟨0, by omega, rfl, rfl⟩ ?_
        · simp only [List.forall_mem_cons, List.not_mem_nil, false_imp_iff, implies_true, and_true]
          simp -dsimp only [Vm.E, List.lookup, Nat.reduceAdd, Nat.reduceBEq, Int.reduceBNe, Int.reduceBEq, Bool.true_beq, Bool.false_beq]
          exact ⟨.refl _, .nil _ _ _ (by decide), .refl _⟩
        · rintro m s h' ⟨i, hi, rfl, rfl⟩
          simp -dsimp only [Vm.E, List.lookup, Nat.reduceAdd, Nat.reduceBEq, Int.reduceBNe, Int.reduceBEq, Bool.true_beq, Bool.false_beq, Tryz.underlying32]
          refine cond_intro (fun hc => ?_) (fun hc => ?_)
          · have hlt : i < k := by have := of_decide_eq_true hc; simp only [List.length_cons, List.length_map] at this; omega
            simp -dsimp only [Vm.E, List.lookup, Nat.reduceAdd, Nat.reduceBEq, Int.reduceBNe, Int.reduceBEq, Bool.true_beq, Bool.false_beq]
            refine call_one (S := getSpec) rfl _ GaL.rfl ⟨t :: r, ((1 + 4 * i : Nat) : Int), 4, hl, by omega, rfl, ?_⟩
            simp only [num4_cons t r i (by omega)]
            simp -dsimp only [Vm.E, List.lookup, Nat.reduceAdd, Nat.reduceBEq, Int.reduceBNe, Int.reduceBEq, Bool.true_beq, Bool.false_beq, es28]
            refine bs_intro zr3 (by decide) (by decide) rfl rfl (by simp [solid, AV.cells]) ?_
            simp -dsimp only [Vm.E, List.lookup, Nat.reduceAdd, Nat.reduceBEq, Int.reduceBNe, Int.reduceBEq, Bool.true_beq, Bool.false_beq, append_own ei28]
            refine app_sl Tryz.underlying28 (by simp [AV.cells]) (by simp [numsK]; omega) ?_
            simp -dsimp only [Vm.E, List.lookup, Nat.reduceAdd, Nat.reduceBEq, Int.reduceBNe, Int.reduceBEq, Bool.true_beq, Bool.false_beq]
            refine kept_intro ⟨k - (i + 1), by omega, _, le_mk [(0, .sl 1 ((t :: r).map encB)), (5, .own true 3 1 ((numsK r (i + 1)).map encI)), (6, .v (.int .i64 (1 + 4 * (i + 1) : Nat)))] ?_, i + 1, by omega, rfl, rfl⟩
            have ew : IntKind.i64.wrap (((1 + 4 * i : Nat) : Int) + 4) = ((1 + 4 * (i + 1) : Nat) : Int) := by rw [wrap_i64 (by omega) (by omega)]; omega
            have en : (numsK r i).map encI ++ [AV.v (.int .i64 (num4 r i))] = (numsK r (i + 1)).map encI := by simp [numsK, List.range_succ, encI]
            simp only [List.forall_mem_cons, List.not_mem_nil, false_imp_iff, implies_true, and_true]
            simp -dsimp only [Vm.E, List.lookup, Nat.reduceAdd, Nat.reduceBEq, Int.reduceBNe, Int.reduceBEq, Bool.true_beq, Bool.false_beq, ew, en]
            exact ⟨.refl _, .refl _, .refl _⟩
          · have hge : ¬ i < k := by have := of_decide_eq_false hc; simp only [List.length_cons, List.length_map] at this; omega
            obtain rfl : i = k := by omega
            simp -dsimp only [Vm.E, List.lookup, Nat.reduceAdd, Nat.reduceBEq, Int.reduceBNe, Int.reduceBEq, Bool.true_beq, Bool.false_beq, es32, as32]
            refine idx_bytes (t :: r) 0 (by simp) ?_
            simp -dsimp only [Vm.E, List.lookup, Nat.reduceAdd, Nat.reduceBEq, Int.reduceBNe, Int.reduceBEq, Bool.true_beq, Bool.false_beq, of5, Tryz.results274]
            exact hq'
      · have c3 : ((((r.length + 1) % 4 : Nat) : Int) != 1) = true := by simp; omega
        simp -dsimp only [Vm.G, List.lookup, Nat.reduceAdd, Nat.reduceBEq, Int.reduceBNe, Int.reduceBEq, Nat.reduceLeDiff, q274, c3]
        exact hq0 (if_neg (by omega))
    · have c2 : decide (((r.length + 1 : Nat) : Int) > 29) = true := decide_eq_true (by omega)
      simp -dsimp only [Vm.G, List.lookup, Nat.reduceAdd, Nat.reduceBEq, Int.reduceBNe, Int.reduceBEq, Nat.reduceLeDiff, q274, c2]
      exact hq0 (if_neg (by omega))
def ofOf (key : List UInt8) (tag : UInt8) (many : Int) : Option (List Int) := match splitOf key with
  | some (t, l) => if t = tag ∧ (l.length : Int) = many then some l else none
  | none => none
def rOfSpec : Vm.Spec := fun args h Q => ∃ (b : List UInt8) (tag : UInt8) (many : Int), b.length ≤ 4611686018427387904 ∧ args = [.sl 1 (b.map encB), .v (.int .u8 tag.toNat), .v (.int .i64 many)] ∧
  (ofOf b tag many = none → Q (.tup [.v (.slice none 0 0), .v (.bool false)]) h) ∧ (∀ l, ofOf b tag many = some l → Q (.otup 0 true 3 1 (l.map encI) [.any, .v (.bool true)]) h)
theorem does_rOf : Does Tryz.prog 234 rOfSpec := by
  refine does_of_awpO 0 (good_cons does_rSplit good_nil) Tryz.func234 rfl (by decide +kernel) (by decide +kernel) ?_
  rintro args h Q ⟨b, tag, many, hl, rfl, hq0, hq⟩
  refine ⟨by simp [Tryz.f234], ?_⟩
  rw [awpFuncO_some (by rfl)]
  unfold ofOf at hq0 hq
  simp -dsimp only [Vm.E, List.lookup, Nat.reduceAdd, Nat.reduceBEq, Int.reduceBNe, Int.reduceBEq, Bool.true_beq, Bool.false_beq]
  refine call_one (S := splitSpec) rfl _ GaL.rfl ⟨b, hl, rfl, fun hs => ?_, fun t l hs => ?_⟩
  · rw [hs] at hq0
    unfold noKey
    simp -dsimp only [Vm.E, List.lookup, Nat.reduceAdd, Nat.reduceBEq, Int.reduceBNe, Int.reduceBEq, Bool.true_beq, Bool.false_beq, Tryz.results234]
    exact hq0 rfl
  · rw [hs] at hq0 hq
    simp -dsimp only [Vm.E, List.lookup, Nat.reduceAdd, Nat.reduceBEq, Int.reduceBNe, Int.reduceBEq, Bool.true_beq, Bool.false_beq]
    by_cases d1 : t = tag
    · subst d1
      simp -dsimp only [Vm.E, List.lookup, Nat.reduceAdd, Nat.reduceBEq, Int.reduceBNe, Int.reduceBEq, Bool.true_beq, Bool.false_beq, bne_self_eq_false, Tryz.underlying28]
      by_cases d2 : (l.length : Int) = many
      · have c2 : ((l.length : Int) != many) = false := by simp [d2]
        simp -dsimp only [Vm.G, List.lookup, Nat.reduceAdd, Nat.reduceBEq, Int.reduceBNe, Int.reduceBEq, Nat.reduceLeDiff, q234, c2]
        exact hq l (if_pos ⟨rfl, d2⟩)
      · have c2 : ((l.length : Int) != many) = true := by simp [d2]
        simp -dsimp only [Vm.G, List.lookup, Nat.reduceAdd, Nat.reduceBEq, Int.reduceBNe, Int.reduceBEq, Nat.reduceLeDiff, q234, c2]
        exact hq0 (if_neg fun hc => d2 hc.2)
    · have c1 : ((t.toNat : Int) != tag.toNat) = true := by
        simp only [bne_iff_ne, ne_eq]
        exact fun e => d1 (UInt8.toNat_inj.1 (by omega))
      simp -dsimp only [Vm.G, List.lookup, Nat.reduceAdd, Nat.reduceBEq, Int.reduceBNe, Int.reduceBEq, Nat.reduceLeDiff, q234, c1]
      exact hq0 (if_neg fun hc => d1 hc.1)
def eqIntSpec : Vm.Spec := fun args h Q => ∃ l l' : List Int, l.length ≤ 9223372036854775807 ∧ args = [.sl 1 (l.map encI), .sl 1 (l'.map encI)] ∧ Q (.v (.bool (decide (l = l')))) h
theorem does_eqInt : Does Tryz.prog 52 eqIntSpec := by
  refine does_of_awp good_nil Tryz.func52 rfl (by decide +kernel) (by decide +kernel) ?_
  rintro args h Q ⟨l, l', hl, rfl, hq⟩
  refine ⟨by simp [Tryz.f52], ?_⟩
  rw [awpFunc_some (by rfl)]
  simp -dsimp only [Vm.E, List.lookup, Nat.reduceAdd, Nat.reduceBEq, Int.reduceBNe, Int.reduceBEq, Bool.true_beq, Bool.false_beq, Tryz.underlying28]
  by_cases hlen : l.length = l'.length
  · have c1 : ((l.length : Int) != l'.length) = false := by simp [hlen]
    simp -dsimp only [Vm.E, List.lookup, Nat.reduceAdd, Nat.reduceBEq, Int.reduceBNe, Int.reduceBEq, Bool.true_beq, Bool.false_beq, c1, Tryz.underlying28]
    refine awp_loop (fun m s h' => ∃ i : Nat, i + m = l.length ∧ h' = h ∧ (∀ j (hj : j < l.length), j < i → l[j] = l'[j]'(by omega)) ∧ s = mk [(0, .sl 1 (l.map encI)), (1, .sl 1 (l'.map encI)), (12, .v (.int .i64 l.length)), (13, .v (.int .i64 i))])
      l.length _ (le_mk _ ?_) ⟨0, by omega, rfl, fun j _ hj => by omega, rfl⟩ ?_
    · simp only [List.forall_mem_cons, List.not_mem_nil, false_imp_iff, implies_true, and_true]
      simp -dsimp only [Vm.E, List.lookup, Nat.reduceAdd, Nat.reduceBEq, Int.reduceBNe, Int.reduceBEq, Bool.true_beq, Bool.false_beq]
      exact ⟨.refl _, .refl _, .refl _, .refl _⟩
    · rintro m s h' ⟨i, hi, rfl, hb, rfl⟩
      simp -dsimp only [Vm.E, List.lookup, Nat.reduceAdd, Nat.reduceBEq, Int.reduceBNe, Int.reduceBEq, Bool.true_beq, Bool.false_beq]
      refine cond_intro (fun hcc => ?_) (fun hcc => ?_)
      · have hlt : i < l.length := by have := of_decide_eq_true hcc; omega
        have hlt' : i < l'.length := by omega
        obtain ⟨x, hx⟩ : ∃ x, l[i] = x := ⟨_, rfl⟩
        obtain ⟨y, hy⟩ : ∃ y, l'[i] = y := ⟨_, rfl⟩
        have hw : IntKind.i64.wrap ((i : Int) + 1) = ((i + 1 : Nat) : Int) := by rw [wrap_i64 (by omega) (by omega)]; simp
        simp -dsimp only [Vm.E, List.lookup, Nat.reduceAdd, Nat.reduceBEq, Int.reduceBNe, Int.reduceBEq, Bool.true_beq, Bool.false_beq]
        refine draw_cont [] (.take 0 (.take 1 (.take 2 (.take 3 (.take 4 (.take 5 (.take 6 (.take 7 (.take 8 (.done)))))))))) (fun s hx => hx = h' ∧ s 24 = .v (.bool (x != y)) ∧ s 0 = .sl 1 (l.map encI) ∧ s 1 = .sl 1 (l'.map encI) ∧ s 12 = .v (.int .i64 l.length) ∧ s 13 = .v (.int .i64 i)) (by kernel_rfl) (by kernel_rfl) (by kernel_rfl) (by decide) ?_ ?_
        · simp -dsimp only [Vm.E, List.lookup, Nat.reduceAdd, Nat.reduceBEq, Int.reduceBNe, Int.reduceBEq, Bool.true_beq, Bool.false_beq, es28, as28]
          refine idx_ints l i hlt ?_
          simp only [hx]
          simp -dsimp only [Vm.E, List.lookup, Nat.reduceAdd, Nat.reduceBEq, Int.reduceBNe, Int.reduceBEq, Bool.true_beq, Bool.false_beq, of3, es28, as28]
          refine idx_ints l' i hlt' ?_
          simp only [hy]
          simp -dsimp only [Vm.E, List.lookup, Nat.reduceAdd, Nat.reduceBEq, Int.reduceBNe, Int.reduceBEq, Bool.true_beq, Bool.false_beq, of3]
        · rintro s hx2 ⟨rfl, e24, e0, e1, e12, e13⟩
          by_cases he : x = y
          · have c2 : (x != y) = false := by simp [he]
            rw [c2] at e24
            simp -dsimp only [Vm.E, List.lookup, Nat.reduceAdd, Nat.reduceBEq, Int.reduceBNe, Int.reduceBEq, Bool.true_beq, Bool.false_beq, e24, e0, e1, e12, e13, hw]
            refine kept_intro ⟨l.length - (i + 1), by omega, _, le_mk [(0, .sl 1 (l.map encI)), (1, .sl 1 (l'.map encI)), (12, .v (.int .i64 l.length)), (13, .v (.int .i64 (i + 1 : Nat)))] ?_, i + 1, by omega, rfl, fun j hj hj2 => ?_, rfl⟩
            · simp only [List.forall_mem_cons, List.not_mem_nil, false_imp_iff, implies_true, and_true]
              simp -dsimp only [Vm.E, List.lookup, Nat.reduceAdd, Nat.reduceBEq, Int.reduceBNe, Int.reduceBEq, Bool.true_beq, Bool.false_beq, e24, e0, e1, e12, e13]
              exact ⟨.refl _, .refl _, .refl _, .refl _⟩
            · by_cases hji : j = i
              · subst hji; rw [hx, hy]; exact he
              · exact hb j hj (by omega)
          · have c2 : (x != y) = true := by simp [he]
            rw [c2] at e24
            have hne : ¬ l = l' := fun e => he (by subst e; rw [← hx, ← hy])
            rw [decide_eq_false hne] at hq
            simp -dsimp only [Vm.E, List.lookup, Nat.reduceAdd, Nat.reduceBEq, Int.reduceBNe, Int.reduceBEq, Bool.true_beq, Bool.false_beq, e24, e0, e1, e12, e13, Tryz.results52]
            exact hq
      · have hge : ¬ i < l.length := by have := of_decide_eq_false hcc; omega
        have he : l = l' := List.ext_getElem hlen fun j h1 h2 => hb j h1 (by omega)
        rw [decide_eq_true he] at hq
        simp -dsimp only [Vm.E, List.lookup, Nat.reduceAdd, Nat.reduceBEq, Int.reduceBNe, Int.reduceBEq, Bool.true_beq, Bool.false_beq, Tryz.results52]
        exact hq
  · have c1 : ((l.length : Int) != l'.length) = true := by simp; omega
    rw [decide_eq_false fun e => hlen (by rw [e])] at hq
    simp -dsimp only [Vm.E, List.lookup, Nat.reduceAdd, Nat.reduceBEq, Int.reduceBNe, Int.reduceBEq, Bool.true_beq, Bool.false_beq, c1, Tryz.results52]
    exact hq
end Go.Proofs.Lx
/- Nodes that go: IndexFunc and DeleteFunc at nodes (printed by gendel.py out of L15). -/
set_option linter.unusedSimpArgs false
set_option linter.unusedVariables false
namespace Go.Proofs.Lx
open Go.Vm
attribute [local irreducible] awpArr awpBin awpMake awpAppend awpCvX awpStrOf awpBinX awpSlice awpBS awpStore awpAlloc awpCopy awpIndex awpDraw awpIdxX awpFa awpField awpLookup awpUpdate awpDelete awpClear awpRange awpNext awpEntry awpBuild awpClearS awpIdxL
def isNd (x : AV) : Prop := ∃ n : Nd, x = .agg [AV.v (.int .i64 n.year), AV.v (.int .i64 n.id), AV.v (.int .i64 n.parent), AV.v (.int .i64 n.fund), AV.v (.int .i64 n.obj), AV.v (.bool n.abs), AV.v (.int .i64 n.limit), AV.v (.int .i64 n.pre), AV.v (.int .i64 n.enc), AV.v (.int .i64 n.exp), AV.v (.int .i64 n.lapsed), AV.v (.int .i64 n.carried)]
theorem isNd.cells {x : AV} (h : isNd x) : x.cells.length = 12 := by obtain ⟨n, rfl⟩ := h; rfl
end Go.Proofs.Lx
/- The tree of nodes: those of a year, those below one. -/
set_option linter.unusedSimpArgs false
set_option linter.unusedVariables false
namespace Go.Proofs.Lx
open Go.Vm
attribute [local irreducible] awpArr awpBin awpMake awpAppend awpCvX awpStrOf awpBinX awpSlice awpBS awpStore awpAlloc awpCopy awpIndex awpDraw awpIdxX awpFa awpField awpLookup awpUpdate awpDelete awpClear awpRange awpNext awpEntry awpBuild awpClearS awpIdxL
theorem filterMap_step {α β : Type} (g : α → Option β) (l : List α) (i : Nat) (hi : i < l.length) : (l.take (i + 1)).filterMap g = (l.take i).filterMap g ++ (g l[i]).toList := by
  rw [List.take_succ_eq_append_getElem hi, List.filterMap_append]
  cases h : g l[i] <;> simp [h]
theorem filterMap_le {α β : Type} (g : α → Option β) (l : List α) (i : Nat) : ((l.take i).filterMap g).length ≤ i := Nat.le_trans (List.length_filterMap_le ..) (by rw [List.length_take]; omega)
end Go.Proofs.Lx
/- The reference of nodes: ref19, ref28. -/
set_option linter.unusedSimpArgs false
set_option linter.unusedVariables false
namespace Go.Proofs.Lx
open Go.Vm
attribute [local irreducible] awpArr awpBin awpMake awpAppend awpCvX awpStrOf awpBinX awpSlice awpBS awpStore awpAlloc awpCopy awpIndex awpDraw awpIdxX awpFa awpField awpLookup awpUpdate awpDelete awpClear awpRange awpNext awpEntry awpBuild awpClearS awpIdxL awpTree appB awpIdxO eltA treeA
def rPairSpec : Vm.Spec := fun args h Q => ∃ (tag : UInt8) (kl vl : List Int), kl.length ≤ 4611686018427387904 ∧ vl.length ≤ 4611686018427387904 ∧ (∀ n ∈ vl, I64 n) ∧ args = [.v (.int .u8 tag.toNat), .sl 1 (kl.map encI), .sl 1 (vl.map encI)] ∧
  Q (.agg [.sl 1 ((keyOf tag kl).map encB), .sl 1 ((packOf vl).map encB)]) h
theorem does_rPair : Does Tryz.prog 196 rPairSpec := by
  refine does_of_awp (good_cons does_rKey (good_cons does_rPack good_nil)) Tryz.func196 rfl (by decide +kernel) (by decide +kernel) ?_
  rintro args h Q ⟨tag, kl, vl, hk, hv, hi, rfl, hq⟩
  refine ⟨by simp [Tryz.f196], ?_⟩
  rw [awpFunc_some (by rfl)]
  simp -dsimp only [Vm.G, List.lookup, Nat.reduceAdd, Nat.reduceBEq, Int.reduceBNe, Int.reduceBEq, Nat.reduceLeDiff, q196]
  refine call_one (S := keySpec) rfl _ GaL.rfl ⟨tag, kl, by omega, rfl, ?_⟩
  simp -dsimp only [Vm.G, List.lookup, Nat.reduceAdd, Nat.reduceBEq, Int.reduceBNe, Int.reduceBEq, Nat.reduceLeDiff, q196]
  refine call_one (S := packSpec) rfl _ GaL.rfl ⟨vl, by omega, hi, rfl, ?_⟩
  simp -dsimp only [Vm.G, List.lookup, Nat.reduceAdd, Nat.reduceBEq, Int.reduceBNe, Int.reduceBEq, Nat.reduceLeDiff, q196]
  exact hq
/-- A pair's numbers, or not. -/
def bothOf (tag : UInt8) (k v : Nat) (key val : List UInt8) : Option (List Int × List Int) :=
  match ofOf key tag k with
  | some l => if val.length = 8 * v then some (l, numsOf val v) else none
  | none => none
theorem both_nums (tag : UInt8) (k v : Nat) (key val : List UInt8) : numsPair tag k v key val = (bothOf tag k v key val).map fun p => p.1 ++ p.2 := by
  unfold numsPair bothOf ofOf
  cases splitOf key with
  | none => rfl
  | some p =>
    obtain ⟨t, l⟩ := p
    simp only
    by_cases h1 : t = tag
    · by_cases h2 : l.length = k
      · have h2' : (l.length : Int) = k := by omega
        by_cases h3 : val.length = 8 * v
        · simp [h1, h2, h3]
        · simp [h1, h2, h3]
      · have h2' : ¬ (l.length : Int) = k := by omega
        simp [h1, h2, h2']
    · simp [h1]
def rBothSpec : Vm.Spec := fun args h Q => ∃ (tag : UInt8) (k v : Nat) (key val : List UInt8), v ≤ 15 ∧ k ≤ 15 ∧ key.length ≤ 1073741824 ∧ val.length ≤ 1073741824 ∧ args = [.agg [.sl 1 (key.map encB), .sl 1 (val.map encB)], .v (.int .u8 tag.toNat), .v (.int .i64 k), .v (.int .i64 v)] ∧
  (∀ p, bothOf tag k v key val = some p → Q (.tup [.sl 1 (p.1.map encI), .sl 1 (p.2.map encI), .v (.bool true)]) h) ∧ (bothOf tag k v key val = none → ∀ a b : List Int, Q (.tup [.sl 1 (a.map encI), .sl 1 (b.map encI), .v (.bool false)]) h)
def isI (x : AV) (l : List Int) : Prop := x = .sl 1 (l.map encI) ∨ (l = [] ∧ x = .v (.slice none 0 0))
theorem isI.ga {x : AV} {l : List Int} (h : isI x l) : Ga x (.sl 1 (l.map encI)) := by
  rcases h with rfl | ⟨rfl, rfl⟩
  · exact .refl _
  · exact .nil 1
def rBoth0 : Vm.Spec := fun args h Q => ∃ (tag : UInt8) (k v : Nat) (key val : List UInt8), v ≤ 15 ∧ k ≤ 15 ∧ key.length ≤ 1073741824 ∧ val.length ≤ 1073741824 ∧ args = [.agg [.sl 1 (key.map encB), .sl 1 (val.map encB)], .v (.int .u8 tag.toNat), .v (.int .i64 k), .v (.int .i64 v)] ∧
  (∀ p, bothOf tag k v key val = some p → Q (.tup [.sl 1 (p.1.map encI), .sl 1 (p.2.map encI), .v (.bool true)]) h) ∧ (bothOf tag k v key val = none → ∀ (a b : List Int) (x y : AV), isI x a → isI y b → Q (.tup [x, y, .v (.bool false)]) h)
set_option maxRecDepth 20000 in
theorem does_rBoth0 : Does Tryz.prog 198 rBoth0 := by
  refine does_of_awp (good_cons does_rOf (good_cons does_rUnpack good_nil)) Tryz.func198 rfl (by decide +kernel) (by decide +kernel) ?_
  rintro args h Q ⟨tag, k, v, key, val, hv, hk, hkl, hvl, rfl, hq1, hq2⟩
  refine ⟨by simp [Tryz.f198], ?_⟩
  rw [awpFunc_some (by rfl)]
  unfold bothOf at hq1 hq2
  simp -dsimp only [Vm.G, List.lookup, Nat.reduceAdd, Nat.reduceBEq, Int.reduceBNe, Int.reduceBEq, Nat.reduceLeDiff, q198]
  refine call_one (S := rOfSpec) rfl _ GaL.rfl ⟨key, tag, k, by omega, rfl, fun hs => ?_, fun l hs => ?_⟩
  · rw [hs] at hq2
    simp -dsimp only [Vm.G, List.lookup, Nat.reduceAdd, Nat.reduceBEq, Int.reduceBNe, Int.reduceBEq, Nat.reduceLeDiff, q198]
    refine call_one (S := unpackSpec) rfl _ GaL.rfl ⟨val, v, by omega, by unfold I64; omega, rfl, ?_⟩
    unfold unpackRes
    rw [if_neg (by omega)]
    by_cases h3 : val.length = 8 * v
    · rw [if_neg (by omega)]
      simp -dsimp only [Vm.G, List.lookup, Nat.reduceAdd, Nat.reduceBEq, Int.reduceBNe, Int.reduceBEq, Nat.reduceLeDiff, q198]
      exact hq2 rfl [] (numsOf val (v : Int).toNat) _ _ (.inr ⟨rfl, rfl⟩) (.inl rfl)
    · rw [if_pos (by omega)]
      simp -dsimp only [Vm.G, List.lookup, Nat.reduceAdd, Nat.reduceBEq, Int.reduceBNe, Int.reduceBEq, Nat.reduceLeDiff, q198]
      exact hq2 rfl [] [] _ _ (.inr ⟨rfl, rfl⟩) (.inr ⟨rfl, rfl⟩)
  · rw [hs] at hq1 hq2
    simp -dsimp only [Vm.G, List.lookup, Nat.reduceAdd, Nat.reduceBEq, Int.reduceBNe, Int.reduceBEq, Nat.reduceLeDiff, q198]
    refine call_one (S := unpackSpec) rfl _ GaL.rfl ⟨val, v, by omega, by unfold I64; omega, rfl, ?_⟩
    unfold unpackRes
    rw [if_neg (by omega)]
    by_cases h3 : val.length = 8 * v
    · rw [if_neg (by omega)]
      simp only [if_pos h3] at hq1
      simp -dsimp only [Vm.G, List.lookup, Nat.reduceAdd, Nat.reduceBEq, Int.reduceBNe, Int.reduceBEq, Nat.reduceLeDiff, q198]
      have := hq1 _ rfl
      simpa using this
    · rw [if_pos (by omega)]
      simp only [if_neg h3] at hq2
      simp -dsimp only [Vm.G, List.lookup, Nat.reduceAdd, Nat.reduceBEq, Int.reduceBNe, Int.reduceBEq, Nat.reduceLeDiff, q198]
      exact hq2 trivial l [] _ _ (.inl rfl) (.inr ⟨rfl, rfl⟩)
theorem does_rBoth : Does Tryz.prog 198 rBothSpec := by
  refine (Does.weak does_rBoth0).imp ?_
  rintro args h Q ⟨tag, k, v, key, val, hv, hk, hkl, hvl, rfl, hq1, hq2⟩
  exact ⟨tag, k, v, key, val, hv, hk, hkl, hvl, rfl, fun p hp => ⟨_, .refl _, hq1 p hp⟩, fun hn a b x y hx hy => ⟨_, .tup (.cons hx.ga (.cons hy.ga GaL.rfl)), hq2 hn a b⟩⟩
theorem both_length {tag : UInt8} {k v : Nat} {key val : List UInt8} {p : List Int × List Int} (h : bothOf tag k v key val = some p) : p.1.length = k ∧ p.2.length = v := by
  unfold bothOf ofOf at h
  split at h
  · rename_i l hl
    split at hl
    · split at hl
      · rename_i hc
        cases hl
        split at h
        · cases h; exact ⟨by show l.length = k; omega, by simp [numsOf]⟩
        · cases h
      · cases hl
    · cases hl
  · cases h
end Go.Proofs.Lx
/- The law TreeEnds. -/
set_option linter.unusedSimpArgs false
set_option linter.unusedVariables false
namespace Go.Proofs.Lx
open Go.Vm
attribute [local irreducible] awpArr awpBin awpMake awpAppend awpCvX awpStrOf awpBinX awpSlice awpBS awpStore awpAlloc awpCopy awpIndex awpDraw awpIdxX awpFa awpField awpLookup awpUpdate awpDelete awpClear awpRange awpNext awpEntry awpBuild awpClearS awpIdxL
def vnewASpec : Vm.Spec := fun args h Q => args = [nilP] ∧ ∀ V h', isView h' V noF → Q (.ptr V.iv 0) h'
theorem does_vnewA : Does Tryz.prog 13 vnewASpec := does_vnew.imp (by
  rintro args h Q ⟨rfl, hq⟩
  exact ⟨rfl, hq ⟨h.length + 2, h.length, h.length + 1⟩ _ (isView_new h)⟩)
end Go.Proofs.Lx
/- Balances: bal; the law BalBack. -/
set_option linter.unusedSimpArgs false
set_option linter.unusedVariables false
namespace Go.Proofs.Lx
open Go.Vm
attribute [local irreducible] awpArr awpBin awpMake awpAppend awpCvX awpStrOf awpBinX awpSlice awpBS awpStore awpAlloc awpCopy awpIndex awpDraw awpIdxX awpFa awpField awpLookup awpUpdate awpDelete awpClear awpRange awpNext awpEntry awpBuild awpClearS awpIdxL awpTree appB awpIdxO eltA treeA
structure Ln where
  fund : Int
  obj : Int
  node : Int
  amt : Int
end Go.Proofs.Lx
/- Documents, pre-encumbrances: docs.Put, pre. -/
set_option linter.unusedSimpArgs false
set_option linter.unusedVariables false
namespace Go.Proofs.Lx
open Go.Vm
attribute [local irreducible] awpArr awpBin awpMake awpAppend awpCvX awpStrOf awpBinX awpSlice awpBS awpStore awpAlloc awpCopy awpIndex awpDraw awpIdxX awpFa awpField awpLookup awpUpdate awpDelete awpClear awpRange awpNext awpEntry awpBuild awpClearS awpIdxL awpTree appB awpIdxO eltA treeA
structure Dl where
  node : Int
  orig : Int
  liq : Int
  can : Int
def dlCells (x : Dl) : List AV := [.v (.int .i64 x.node), .v (.int .i64 x.orig), .v (.int .i64 x.liq), .v (.int .i64 x.can)]
def dlAv (x : Dl) : AV := .agg (dlCells x)
def Dl.ok (x : Dl) : Prop := I64 x.node ∧ I64 x.orig ∧ I64 x.liq ∧ I64 x.can
structure Dc where
  id : Int
  kind : Int
  year : Int
  frm : Int
  lines : Int
def dcCells (d : Dc) : List AV := [.v (.int .i64 d.id), .v (.int .i64 d.kind), .v (.int .i64 d.year), .v (.int .i64 d.frm), .v (.int .i64 d.lines)]
def Dc.ok (d : Dc) : Prop := I64 d.id ∧ I64 d.kind ∧ I64 d.year ∧ I64 d.frm ∧ I64 d.lines
def dlK (id i : Int) : List UInt8 := keyOf 76 [id, i]
def dlV (x : Dl) : List UInt8 := packOf [x.node, x.orig, x.liq, x.can]
def dcK (id : Int) : List UInt8 := keyOf 68 [id]
def dcV (d : Dc) : List UInt8 := packOf [d.kind, d.year, d.frm, d.lines]
theorem dlK_length (id i : Int) : (dlK id i).length = 9 := by simp [dlK, keyOf, packs, be_length]
theorem dcK_length (id : Int) : (dcK id).length = 5 := by simp [dcK, keyOf, packs, be_length]
theorem dlV_length (x : Dl) : (dlV x).length = 32 := by simp [dlV, packOf, packs, be_length]
theorem dcV_length (d : Dc) : (dcV d).length = 32 := by simp [dcV, packOf, packs, be_length]
theorem right_dl (id i : Int) (x : Dl) : rightKV (dlK id i) (dlV x) = true := by simp [rightKV, dlK_length, dlV_length]
theorem right_dc (id : Int) (d : Dc) : rightKV (dcK id) (dcV d) = true := by simp [rightKV, dcK_length, dcV_length]
theorem does_docLines : Does Tryz.prog 181 (tabSpec 76 2 4) := by
  refine does_of_awp good_nil Tryz.func181 rfl (by decide +kernel) (by decide +kernel) ?_
  rintro args h Q ⟨rfl, hq⟩
  refine ⟨by simp [Tryz.f181], ?_⟩
  rw [awpFunc_some (by rfl)]
  simp -dsimp only [Vm.G, List.lookup, Nat.reduceAdd, Nat.reduceBEq, Int.reduceBNe, Int.reduceBEq, Nat.reduceLeDiff, q181]
  exact hq
theorem does_documents : Does Tryz.prog 183 (tabSpec 68 1 4) := by
  refine does_of_awp good_nil Tryz.func183 rfl (by decide +kernel) (by decide +kernel) ?_
  rintro args h Q ⟨rfl, hq⟩
  refine ⟨by simp [Tryz.f183], ?_⟩
  rw [awpFunc_some (by rfl)]
  simp -dsimp only [Vm.G, List.lookup, Nat.reduceAdd, Nat.reduceBEq, Int.reduceBNe, Int.reduceBEq, Nat.reduceLeDiff, q183]
  exact hq
def rdlSpec : Vm.Spec := fun args h Q => ∃ (id i : Int) (x : Dl), I64 id ∧ I64 i ∧ x.ok ∧ args = [.v (.int .i64 id), .v (.int .i64 i), dlAv x] ∧ Q (.agg [.sl 1 ((dlK id i).map encB), .sl 1 ((dlV x).map encB)]) h
set_option maxRecDepth 20000 in
theorem does_recDl : Does Tryz.prog 107 rdlSpec := by
  refine does_of_awp (good_cons does_docLines (good_cons does_pair good_nil)) Tryz.func107 rfl (by decide +kernel) (by decide +kernel) ?_
  rintro args h Q ⟨id, i, x, hid, hi, ⟨o1, o2, o3, o4⟩, rfl, hq⟩
  refine ⟨by simp [Tryz.f107], ?_⟩
  rw [awpFunc_some (by rfl)]
  simp only [dlAv, dlCells]
  simp -dsimp only [Vm.G, List.lookup, Nat.reduceAdd, Nat.reduceBEq, Int.reduceBNe, Int.reduceBEq, Nat.reduceLeDiff, q107]
  refine draw_cont [5] (.take 1 (.take 2 (.take 3 (.take 4 (.take 5 (.take 6 (.take 7 (.take 8 (.take 9 (.take 10 (.alt 0 (.alt 11 (.alt 12 (.alt 13 (.done) .stop) .stop) .stop) (.alt 11 (.alt 0 (.alt 12 (.alt 13 (.done) .stop) .stop) .stop) (.stop))))))))))))) (fun s h2 => h2 = h ∧ s 6 = .box [.sl 1 ((dlK id i).map encB), .sl 1 ((dlV x).map encB)]) (by kernel_rfl) (by kernel_rfl) (by kernel_rfl) (by decide) ?_ ?_
  · have hm : ∀ m ∈ [id, i, x.node, x.orig, x.liq, x.can], I64 m := fun m hm => by
      simp only [List.mem_cons, List.not_mem_nil, or_false] at hm
      rcases hm with rfl | rfl | rfl | rfl | rfl | rfl <;> assumption
    have e1 : keyOf 76 (([id, i, x.node, x.orig, x.liq, x.can] : List Int).take 2) = dlK id i := rfl
    have e2 : packOf (([id, i, x.node, x.orig, x.liq, x.can] : List Int).drop 2) = dlV x := rfl
    repeat' first
      | with_reducible exact True.intro
      | simp -dsimp only [Vm.G, List.lookup, Nat.reduceAdd, Nat.reduceBEq, Int.reduceBNe, Int.reduceBEq, Nat.reduceLeDiff, q107, e1, e2]
      | refine call_one (S := tabSpec 76 2 4) rfl _ GaL.rfl ⟨rfl, ?_⟩
      | refine call_one (S := pairSpec) rfl _ GaL.rfl ⟨76, 2, 4, [id, i, x.node, x.orig, x.liq, x.can], by simp, by simp, hm, rfl, ?_⟩
      | refine bs_intro zr3 (by decide) (by decide) rfl rfl (by simp [solid, AV.cells]) ?_
      | refine tree_alt ?_ ?_
      | repeat' first | rfl | exact True.intro | refine And.intro ?_ ?_
  · rintro s h2 ⟨rfl, e6⟩
    simp -dsimp only [Vm.G, List.lookup, Nat.reduceAdd, Nat.reduceBEq, Int.reduceBNe, Int.reduceBEq, Nat.reduceLeDiff, q107, e6]
    exact hq
def rdcSpec : Vm.Spec := fun args h Q => ∃ d : Dc, d.ok ∧ args = [.agg (dcCells d)] ∧ Q (.agg [.sl 1 ((dcK d.id).map encB), .sl 1 ((dcV d).map encB)]) h
set_option maxRecDepth 20000 in
theorem does_recDc : Does Tryz.prog 108 rdcSpec := by
  refine does_of_awp (good_cons does_documents (good_cons does_pair good_nil)) Tryz.func108 rfl (by decide +kernel) (by decide +kernel) ?_
  rintro args h Q ⟨d, ⟨o1, o2, o3, o4, o5⟩, rfl, hq⟩
  refine ⟨by simp [Tryz.f108], ?_⟩
  rw [awpFunc_some (by rfl)]
  simp only [dcCells]
  simp -dsimp only [Vm.G, List.lookup, Nat.reduceAdd, Nat.reduceBEq, Int.reduceBNe, Int.reduceBEq, Nat.reduceLeDiff, q108]
  refine draw_cont [1] (.take 1 (.take 2 (.take 3 (.take 4 (.take 5 (.take 6 (.take 7 (.take 8 (.take 9 (.take 10 (.alt 0 (.alt 11 (.alt 12 (.alt 13 (.done) .stop) .stop) .stop) (.alt 11 (.alt 0 (.alt 12 (.alt 13 (.done) .stop) .stop) .stop) (.stop))))))))))))) (fun s h2 => h2 = h ∧ s 2 = .box [.sl 1 ((dcK d.id).map encB), .sl 1 ((dcV d).map encB)]) (by kernel_rfl) (by kernel_rfl) (by kernel_rfl) (by decide) ?_ ?_
  · have hm : ∀ m ∈ [d.id, d.kind, d.year, d.frm, d.lines], I64 m := fun m hm => by
      simp only [List.mem_cons, List.not_mem_nil, or_false] at hm
      rcases hm with rfl | rfl | rfl | rfl | rfl <;> assumption
    have e1 : keyOf 68 (([d.id, d.kind, d.year, d.frm, d.lines] : List Int).take 1) = dcK d.id := rfl
    have e2 : packOf (([d.id, d.kind, d.year, d.frm, d.lines] : List Int).drop 1) = dcV d := rfl
    repeat' first
      | with_reducible exact True.intro
      | simp -dsimp only [Vm.G, List.lookup, Nat.reduceAdd, Nat.reduceBEq, Int.reduceBNe, Int.reduceBEq, Nat.reduceLeDiff, q108, e1, e2]
      | refine call_one (S := tabSpec 68 1 4) rfl _ GaL.rfl ⟨rfl, ?_⟩
      | refine call_one (S := pairSpec) rfl _ GaL.rfl ⟨68, 1, 4, [d.id, d.kind, d.year, d.frm, d.lines], by simp, by simp, hm, rfl, ?_⟩
      | refine bs_intro zr3 (by decide) (by decide) rfl rfl (by simp [solid, AV.cells]) ?_
      | refine tree_alt ?_ ?_
      | repeat' first | rfl | exact True.intro | refine And.intro ?_ ?_
  · rintro s h2 ⟨rfl, e2⟩
    simp -dsimp only [Vm.G, List.lookup, Nat.reduceAdd, Nat.reduceBEq, Int.reduceBNe, Int.reduceBEq, Nat.reduceLeDiff, q108, e2]
    exact hq
def dsetSpec : Vm.Spec := fun args h Q => ∃ (V : VId) (f : Fun) (k v : List UInt8), args = [.agg [.ptr V.iv 0], .agg [.sl 1 (k.map encB), .sl 1 (v.map encB)]] ∧ rightKV k v = true ∧ isView h V f ∧ ∀ h', isView h' V (upd f k (some v)) → Same h h' [V.ic] → Q (.v (.int .i64 0)) h'
theorem does_dset : Does Tryz.prog 106 dsetSpec := by
  refine does_of_awp (good_cons does_vput good_nil) Tryz.func106 rfl (by decide +kernel) (by decide +kernel) ?_
  rintro args h Q ⟨V, f, k, v, rfl, hr, hV, hq⟩
  refine ⟨by simp [Tryz.f106], ?_⟩
  rw [awpFunc_some (by rfl)]
  simp -dsimp only [Vm.G, List.lookup, Nat.reduceAdd, Nat.reduceBEq, Int.reduceBNe, Int.reduceBEq, Nat.reduceLeDiff, q106]
  refine call_one (S := vputSpec) rfl _ GaL.rfl ⟨V, f, k, v, rfl, hV, fun _ h' g1 g2 => ?_, fun hc => by rw [hr] at hc; cases hc⟩
  simp -dsimp only [Vm.G, List.lookup, Nat.reduceAdd, Nat.reduceBEq, Int.reduceBNe, Int.reduceBEq, Nat.reduceLeDiff, q106]
  exact hq h' g1 g2
/-- A document's lines, put. -/
def putLines (id : Int) : Nat → List Dl → Fun → Fun
  | _, [], f => f
  | i, x :: r, f => putLines id (i + 1) r (upd f (dlK id i) (some (dlV x)))
def docsF (f : Fun) (id : Int) (d : Dc) (l : List Dl) : Fun := upd (putLines id 0 l (upd f (seqKey 2) (some (be 8 id)))) (dcK id) (some (dcV { d with id := id, lines := l.length }))
def docsPut (f : Fun) (d : Dc) (l : List Dl) : Fun × Int × Int :=
  if l.length = 0 ∨ 6 < l.length then (f, 0, 1)
  else if readOf f (seqKey 2) < 0 ∨ 4294967294 < readOf f (seqKey 2) then (f, 0, 9)
  else (docsF f (readOf f (seqKey 2) + 1) d l, readOf f (seqKey 2) + 1, 0)
def docsPutSpec : Vm.Spec := fun args h Q => ∃ (V : VId) (f : Fun) (d : Dc) (l : List Dl), d.ok ∧ (∀ x ∈ l, x.ok) ∧ args = [.ptr V.iv 0, .agg (dcCells d), .sl 4 (l.map dlAv)] ∧ isView h V f ∧
  ∀ h', isView h' V (docsPut f d l).1 → Same h h' [V.ic] → Q (.tup [.v (.int .i64 (docsPut f d l).2.1), .v (.int .i64 (docsPut f d l).2.2)]) h'
set_option maxRecDepth 20000 in
set_option maxHeartbeats 1000000 in
theorem does_docsPut : Does Tryz.prog 36 docsPutSpec := by
  refine does_of_awp (good_cons does_seqNext (good_cons does_recDl (good_cons does_dset (good_cons does_recDc good_nil)))) Tryz.func36 rfl (by decide +kernel) (by decide +kernel) ?_
  rintro args h Q ⟨V, f, d, l, hd, hx, rfl, hV, hq⟩
  refine ⟨by simp [Tryz.f36], ?_⟩
  rw [awpFunc_some (by rfl)]
  unfold docsPut at hq
  simp only [dcCells]
  simp -dsimp only [Vm.G, List.lookup, Nat.reduceAdd, Nat.reduceBEq, Int.reduceBNe, Int.reduceBEq, Nat.reduceLeDiff, q36]
  cases c0 : ((l.length : Int) == 0)
  · have d0 : ¬ l.length = 0 := by intro e; rw [e] at c0; simp at c0
    simp -dsimp only [Vm.G, List.lookup, Nat.reduceAdd, Nat.reduceBEq, Int.reduceBNe, Int.reduceBEq, Nat.reduceLeDiff, q36]
    cases c6 : decide ((l.length : Int) > 6)
    · have d6 : ¬ 6 < l.length := by have := of_decide_eq_false c6; omega
      have hr := readOf_range f (seqKey 2)
      simp only [if_neg (show ¬ (l.length = 0 ∨ 6 < l.length) by omega)] at hq
      simp -dsimp only [Vm.G, List.lookup, Nat.reduceAdd, Nat.reduceBEq, Int.reduceBNe, Int.reduceBEq, Nat.reduceLeDiff, q36]
      refine call_one (S := seqNextSpec) rfl _ GaL.rfl ⟨V, f, 2, rfl, hV, fun hr => ?_, fun hn h1 g1 g2 => ?_⟩
      · simp only [if_pos hr] at hq
        simp -dsimp only [Vm.G, List.lookup, Nat.reduceAdd, Nat.reduceBEq, Int.reduceBNe, Int.reduceBEq, Nat.reduceLeDiff, q36]
        exact hq h hV (.refl _ _)
      · simp only [if_neg hn] at hq
        unfold docsF at hq
        have hidr : I64 (readOf f (seqKey 2) + 1) := by unfold I64 at hr ⊢; omega
        generalize readOf f (seqKey 2) + 1 = id at hq g1 hidr ⊢
        generalize upd f (seqKey 2) (some (be 8 id)) = f1 at hq g1
        simp -dsimp only [Vm.G, List.lookup, Nat.reduceAdd, Nat.reduceBEq, Int.reduceBNe, Int.reduceBEq, Nat.reduceLeDiff, q36]
        refine awp_loop (fun m s h' => ∃ (i : Nat) (g : Fun) (s10 : AV), i + m = l.length ∧ isView h' V g ∧ Same h h' [V.ic] ∧ putLines id i (l.drop i) g = putLines id 0 l f1 ∧ (s10 = .box [.ptr V.iv 0] ∨ s10 = .eptr [.ptr V.iv 0]) ∧ s = mk [(2, .sl 4 (l.map dlAv)), (4, .box [.v (.int .i64 d.id), .v (.int .i64 d.kind), .v (.int .i64 d.year), .v (.int .i64 d.frm), .v (.int .i64 d.lines)]), (8, .v (.int .i64 id)), (10, s10), (33, .sl 4 (l.map dlAv)), (34, .v (.int .i64 l.length)), (35, .v (.int .i64 (i : Nat)))])
          l.length _ (le_mk _ ?_) ⟨0, f1, .box [.ptr V.iv 0], by omega, g1, g2, rfl, .inl rfl, rfl⟩ ?_
        · simp only [List.forall_mem_cons, List.not_mem_nil, false_imp_iff, implies_true, and_true]
          try simp -dsimp only [Vm.G, List.lookup, Nat.reduceAdd, Nat.reduceBEq, Int.reduceBNe, Int.reduceBEq, Nat.reduceLeDiff, q36]
          repeat' first | exact Fg.refl _ | exact Fg.nil _ _ _ (by decide) | refine And.intro ?_ ?_
        · clear g1 g2 hV
          rintro m s h' ⟨i, g, s10, hi, hV, hsm, hp, h10, rfl⟩
          simp -dsimp only [Vm.G, List.lookup, Nat.reduceAdd, Nat.reduceBEq, Int.reduceBNe, Int.reduceBEq, Nat.reduceLeDiff, q36]
          refine cond_intro (fun hcc => ?_) (fun hcc => ?_)
          · have hlt : i < l.length := by have := of_decide_eq_true hcc; omega
            have hw : IntKind.i64.wrap ((i : Int) + 1) = ((i + 1 : Nat) : Int) := by rw [wrap_i64 (by omega) (by omega)]; simp
            have hok := hx l[i] (List.getElem_mem hlt)
            rw [List.drop_eq_getElem_cons hlt] at hp
            simp -dsimp only [Vm.G, List.lookup, Nat.reduceAdd, Nat.reduceBEq, Int.reduceBNe, Int.reduceBEq, Nat.reduceLeDiff, q36]
            refine idx_map dlAv l i hlt ?_
            generalize l[i] = x at hok hp
            have hii : I64 (i : Int) := by unfold I64; omega
            simp only [dlAv, dlCells]
            simp -dsimp only [Vm.G, List.lookup, Nat.reduceAdd, Nat.reduceBEq, Int.reduceBNe, Int.reduceBEq, Nat.reduceLeDiff, q36, AV.cells]
            rcases h10 with rfl | rfl
            · refine draw_cont [10, 12] (.take 0 (.take 1 (.take 2 (.take 3 (.alt 4 (.alt 5 (.alt 6 (.done) .stop) .stop) .stop))))) (fun s h2 => isView h2 V (upd g (dlK id i) (some (dlV x))) ∧ Same h' h2 [V.ic] ∧ s 13 = .v (.int .i64 0) ∧ s 2 = .sl 4 (l.map dlAv) ∧ s 4 = .box [.v (.int .i64 d.id), .v (.int .i64 d.kind), .v (.int .i64 d.year), .v (.int .i64 d.frm), .v (.int .i64 d.lines)] ∧ s 8 = .v (.int .i64 id) ∧ s 10 = .eptr [.ptr V.iv 0] ∧ s 33 = .sl 4 (l.map dlAv) ∧ s 34 = .v (.int .i64 l.length) ∧ s 35 = .v (.int .i64 i)) (by kernel_rfl) (by kernel_rfl) (by kernel_rfl) (by decide) ?_ ?_
              · simp -dsimp only [Vm.G, List.lookup, Nat.reduceAdd, Nat.reduceBEq, Int.reduceBNe, Int.reduceBEq, Nat.reduceLeDiff, q36]
                refine call_one (S := rdlSpec) rfl _ GaL.rfl ⟨id, i, x, hidr, hii, hok, rfl, ?_⟩
                simp -dsimp only [Vm.G, List.lookup, Nat.reduceAdd, Nat.reduceBEq, Int.reduceBNe, Int.reduceBEq, Nat.reduceLeDiff, q36]
                refine call_one (S := dsetSpec) rfl _ GaL.rfl ⟨V, g, dlK id i, dlV x, rfl, right_dl id i x, hV, fun h2 g1 g2 => ?_⟩
                simp -dsimp only [Vm.G, List.lookup, Nat.reduceAdd, Nat.reduceBEq, Int.reduceBNe, Int.reduceBEq, Nat.reduceLeDiff, q36]
                refine ⟨g1, g2, ?_⟩
                repeat' first | rfl | exact True.intro | refine And.intro ?_ ?_
              · rintro s h2 ⟨g1, g2, e13, e2, e4, e8, e10, e33, e34, e35⟩
                simp -dsimp only [Vm.G, List.lookup, Nat.reduceAdd, Nat.reduceBEq, Int.reduceBNe, Int.reduceBEq, Nat.reduceLeDiff, q36, e13, e2, e4, e8, e10, e33, e34, e35]
                refine kept_intro ⟨l.length - (i + 1), by omega, _, le_mk [(2, .sl 4 (l.map dlAv)), (4, .box [.v (.int .i64 d.id), .v (.int .i64 d.kind), .v (.int .i64 d.year), .v (.int .i64 d.frm), .v (.int .i64 d.lines)]), (8, .v (.int .i64 id)), (10, .eptr [.ptr V.iv 0]), (33, .sl 4 (l.map dlAv)), (34, .v (.int .i64 l.length)), (35, .v (.int .i64 (i + 1 : Nat)))] ?_, i + 1, _, _, by omega, g1, hsm.trans g2, hp, .inr rfl, rfl⟩
                simp only [List.forall_mem_cons, List.not_mem_nil, false_imp_iff, implies_true, and_true, hw, e2, e4, e8, e10, e33, e34, e35]
                try simp -dsimp only [Vm.G, List.lookup, Nat.reduceAdd, Nat.reduceBEq, Int.reduceBNe, Int.reduceBEq, Nat.reduceLeDiff, q36, hw, e2, e4, e8, e10, e33, e34, e35]
                repeat' first | exact Fg.refl _ | exact Fg.nil _ _ _ (by decide) | refine And.intro ?_ ?_
            · refine draw_cont [12] (.take 0 (.take 1 (.take 2 (.take 3 (.alt 4 (.alt 5 (.alt 6 (.done) .stop) .stop) .stop))))) (fun s h2 => isView h2 V (upd g (dlK id i) (some (dlV x))) ∧ Same h' h2 [V.ic] ∧ s 13 = .v (.int .i64 0) ∧ s 2 = .sl 4 (l.map dlAv) ∧ s 4 = .box [.v (.int .i64 d.id), .v (.int .i64 d.kind), .v (.int .i64 d.year), .v (.int .i64 d.frm), .v (.int .i64 d.lines)] ∧ s 8 = .v (.int .i64 id) ∧ s 10 = .eptr [.ptr V.iv 0] ∧ s 33 = .sl 4 (l.map dlAv) ∧ s 34 = .v (.int .i64 l.length) ∧ s 35 = .v (.int .i64 i)) (by kernel_rfl) (by kernel_rfl) (by kernel_rfl) (by decide) ?_ ?_
              · simp -dsimp only [Vm.G, List.lookup, Nat.reduceAdd, Nat.reduceBEq, Int.reduceBNe, Int.reduceBEq, Nat.reduceLeDiff, q36]
                refine call_one (S := rdlSpec) rfl _ GaL.rfl ⟨id, i, x, hidr, hii, hok, rfl, ?_⟩
                simp -dsimp only [Vm.G, List.lookup, Nat.reduceAdd, Nat.reduceBEq, Int.reduceBNe, Int.reduceBEq, Nat.reduceLeDiff, q36]
                refine call_one (S := dsetSpec) rfl _ GaL.rfl ⟨V, g, dlK id i, dlV x, rfl, right_dl id i x, hV, fun h2 g1 g2 => ?_⟩
                simp -dsimp only [Vm.G, List.lookup, Nat.reduceAdd, Nat.reduceBEq, Int.reduceBNe, Int.reduceBEq, Nat.reduceLeDiff, q36]
                refine ⟨g1, g2, ?_⟩
                repeat' first | rfl | exact True.intro | refine And.intro ?_ ?_
              · rintro s h2 ⟨g1, g2, e13, e2, e4, e8, e10, e33, e34, e35⟩
                simp -dsimp only [Vm.G, List.lookup, Nat.reduceAdd, Nat.reduceBEq, Int.reduceBNe, Int.reduceBEq, Nat.reduceLeDiff, q36, e13, e2, e4, e8, e10, e33, e34, e35]
                refine kept_intro ⟨l.length - (i + 1), by omega, _, le_mk [(2, .sl 4 (l.map dlAv)), (4, .box [.v (.int .i64 d.id), .v (.int .i64 d.kind), .v (.int .i64 d.year), .v (.int .i64 d.frm), .v (.int .i64 d.lines)]), (8, .v (.int .i64 id)), (10, .eptr [.ptr V.iv 0]), (33, .sl 4 (l.map dlAv)), (34, .v (.int .i64 l.length)), (35, .v (.int .i64 (i + 1 : Nat)))] ?_, i + 1, _, _, by omega, g1, hsm.trans g2, hp, .inr rfl, rfl⟩
                simp only [List.forall_mem_cons, List.not_mem_nil, false_imp_iff, implies_true, and_true, hw, e2, e4, e8, e10, e33, e34, e35]
                try simp -dsimp only [Vm.G, List.lookup, Nat.reduceAdd, Nat.reduceBEq, Int.reduceBNe, Int.reduceBEq, Nat.reduceLeDiff, q36, hw, e2, e4, e8, e10, e33, e34, e35]
                repeat' first | exact Fg.refl _ | exact Fg.nil _ _ _ (by decide) | refine And.intro ?_ ?_
          · have hge : ¬ i < l.length := by have := of_decide_eq_false hcc; omega
            rw [List.drop_of_length_le (by omega)] at hp
            have hp : g = putLines id 0 l f1 := hp
            rw [← hp] at hq
            obtain ⟨o1, o2, o3, o4, o5⟩ := hd
            have hdok : ({ d with id := id, lines := (l.length : Int) } : Dc).ok := ⟨hidr, o2, o3, o4, by unfold I64; show -9223372036854775808 ≤ (l.length : Int) ∧ (l.length : Int) ≤ _; omega⟩
            simp -dsimp only [Vm.G, List.lookup, Nat.reduceAdd, Nat.reduceBEq, Int.reduceBNe, Int.reduceBEq, Nat.reduceLeDiff, q36]
            have fin : ∀ {s : Slots}, True := fun {_} => trivial
            rcases h10 with rfl | rfl
            · refine draw_cont [10, 4] (.take 0 (.take 1 (.alt 2 (.alt 3 (.alt 4 (.done) .stop) .stop) .stop))) (fun s h2 => isView h2 V (upd g (dcK id) (some (dcV { d with id := id, lines := l.length }))) ∧ Same h' h2 [V.ic] ∧ s 14 = .v (.int .i64 0) ∧ s 8 = .v (.int .i64 id)) (by kernel_rfl) (by kernel_rfl) (by kernel_rfl) (by decide) ?_ ?_
              · simp -dsimp only [Vm.G, List.lookup, Nat.reduceAdd, Nat.reduceBEq, Int.reduceBNe, Int.reduceBEq, Nat.reduceLeDiff, q36]
                refine call_one (S := rdcSpec) rfl _ GaL.rfl ⟨{ d with id := id, lines := l.length }, hdok, rfl, ?_⟩
                simp -dsimp only [Vm.G, List.lookup, Nat.reduceAdd, Nat.reduceBEq, Int.reduceBNe, Int.reduceBEq, Nat.reduceLeDiff, q36]
                refine call_one (S := dsetSpec) rfl _ GaL.rfl ⟨V, g, dcK id, dcV { d with id := id, lines := l.length }, rfl, right_dc id _, hV, fun h2 g1 g2 => ?_⟩
                simp -dsimp only [Vm.G, List.lookup, Nat.reduceAdd, Nat.reduceBEq, Int.reduceBNe, Int.reduceBEq, Nat.reduceLeDiff, q36]
                refine ⟨g1, g2, ?_⟩
                repeat' first | rfl | exact True.intro | refine And.intro ?_ ?_
              · rintro s h2 ⟨g1, g2, e14, e8⟩
                simp -dsimp only [Vm.G, List.lookup, Nat.reduceAdd, Nat.reduceBEq, Int.reduceBNe, Int.reduceBEq, Nat.reduceLeDiff, q36, e14, e8]
                exact hq h2 g1 (hsm.trans g2)
            · refine draw_cont [4] (.take 0 (.take 1 (.alt 2 (.alt 3 (.alt 4 (.done) .stop) .stop) .stop))) (fun s h2 => isView h2 V (upd g (dcK id) (some (dcV { d with id := id, lines := l.length }))) ∧ Same h' h2 [V.ic] ∧ s 14 = .v (.int .i64 0) ∧ s 8 = .v (.int .i64 id)) (by kernel_rfl) (by kernel_rfl) (by kernel_rfl) (by decide) ?_ ?_
              · simp -dsimp only [Vm.G, List.lookup, Nat.reduceAdd, Nat.reduceBEq, Int.reduceBNe, Int.reduceBEq, Nat.reduceLeDiff, q36]
                refine call_one (S := rdcSpec) rfl _ GaL.rfl ⟨{ d with id := id, lines := l.length }, hdok, rfl, ?_⟩
                simp -dsimp only [Vm.G, List.lookup, Nat.reduceAdd, Nat.reduceBEq, Int.reduceBNe, Int.reduceBEq, Nat.reduceLeDiff, q36]
                refine call_one (S := dsetSpec) rfl _ GaL.rfl ⟨V, g, dcK id, dcV { d with id := id, lines := l.length }, rfl, right_dc id _, hV, fun h2 g1 g2 => ?_⟩
                simp -dsimp only [Vm.G, List.lookup, Nat.reduceAdd, Nat.reduceBEq, Int.reduceBNe, Int.reduceBEq, Nat.reduceLeDiff, q36]
                refine ⟨g1, g2, ?_⟩
                repeat' first | rfl | exact True.intro | refine And.intro ?_ ?_
              · rintro s h2 ⟨g1, g2, e14, e8⟩
                simp -dsimp only [Vm.G, List.lookup, Nat.reduceAdd, Nat.reduceBEq, Int.reduceBNe, Int.reduceBEq, Nat.reduceLeDiff, q36, e14, e8]
                exact hq h2 g1 (hsm.trans g2)
    · have d6 : 6 < l.length := by have := of_decide_eq_true c6; omega
      simp only [if_pos (show l.length = 0 ∨ 6 < l.length from .inr d6)] at hq
      simp -dsimp only [Vm.G, List.lookup, Nat.reduceAdd, Nat.reduceBEq, Int.reduceBNe, Int.reduceBEq, Nat.reduceLeDiff, q36]
      exact hq h hV (.refl _ _)
  · have d0 : l.length = 0 := by
      have : (l.length : Int) = 0 := by simpa using c0
      omega
    simp only [if_pos (show l.length = 0 ∨ 6 < l.length from .inl d0)] at hq
    simp -dsimp only [Vm.G, List.lookup, Nat.reduceAdd, Nat.reduceBEq, Int.reduceBNe, Int.reduceBEq, Nat.reduceLeDiff, q36]
    exact hq h hV (.refl _ _)
/-- Lines' nodes, charged. -/
def chargeL (year : Int) : List Dl → Fun → Bool → Fun × Bool × Int
  | [], f, w => (f, w, 0)
  | x :: r, f, w => if (chargeOf f year x.node ⟨x.orig, 0, 0⟩).2.2 ≠ 0 then ((chargeOf f year x.node ⟨x.orig, 0, 0⟩).1, false, (chargeOf f year x.node ⟨x.orig, 0, 0⟩).2.2)
    else chargeL year r (chargeOf f year x.node ⟨x.orig, 0, 0⟩).1 (w || (chargeOf f year x.node ⟨x.orig, 0, 0⟩).2.1)
attribute [local irreducible] chargeOf chargeL docsPut
def Ln.ok (x : Ln) : Prop := I64 x.fund ∧ I64 x.obj ∧ I64 x.node ∧ I64 x.amt
end Go.Proofs.Lx
/- Documents: docs.Get, Set, All, Last, Open, Right. -/
set_option linter.unusedSimpArgs false
set_option linter.unusedVariables false
namespace Go.Proofs.Lx
open Go.Vm
attribute [local irreducible] awpArr awpBin awpMake awpAppend awpCvX awpStrOf awpBinX awpSlice awpBS awpStore awpAlloc awpCopy awpIndex awpDraw awpIdxX awpFa awpField awpLookup awpUpdate awpDelete awpClear awpRange awpNext awpEntry awpBuild awpClearS awpIdxL awpTree appB awpIdxO eltA treeA
def Dl.zero : Dl := ⟨0, 0, 0, 0⟩
def Dc.zero : Dc := ⟨0, 0, 0, 0, 0⟩
/-- A record's document, its line. -/
def dcOf (l : List Int) : Dc := ⟨l.getD 0 0, l.getD 1 0, l.getD 2 0, l.getD 3 0, l.getD 4 0⟩
def dlOf (l : List Int) : Dl := ⟨l.getD 2 0, l.getD 3 0, l.getD 4 0, l.getD 5 0⟩
def docOf (key val : List UInt8) : Option Dc := (numsPair 68 1 4 key val).map dcOf
def lineOf (key val : List UInt8) : Option Dl := (numsPair 76 2 4 key val).map dlOf
def docOfSpec : Vm.Spec := fun args h Q => ∃ key val : List UInt8, key.length ≤ 4611686018427387904 ∧ val.length ≤ 4611686018427387904 ∧ args = [.agg [.sl 1 (key.map encB), .sl 1 (val.map encB)]] ∧
  (∀ d, docOf key val = some d → Q (.tup [.agg (dcCells d), .v (.bool true)]) h) ∧ (docOf key val = none → Q (.tup [.agg (dcCells .zero), .v (.bool false)]) h)
set_option maxRecDepth 20000 in
set_option maxHeartbeats 1000000 in
theorem does_docOf : Does Tryz.prog 112 docOfSpec := by
  refine does_of_awp (good_cons does_documents (good_cons does_nums good_nil)) Tryz.func112 rfl (by decide +kernel) (by decide +kernel) ?_
  rintro args h Q ⟨key, val, hk, hv, rfl, hq1, hq2⟩
  refine ⟨by simp [Tryz.f112], ?_⟩
  rw [awpFunc_some (by rfl)]
  unfold docOf at hq1 hq2
  simp only [dcCells, Dc.zero] at hq2
  simp -dsimp only [Vm.G, List.lookup, Nat.reduceAdd, Nat.reduceBEq, Int.reduceBNe, Int.reduceBEq, Nat.reduceLeDiff, q112]
  refine draw_cont [1] (.take 1 (.alt 0 (.alt 2 (.take 3 (.take 4 (.take 5 (.alt 6 (.alt 7 (.done) .stop) .stop)))) .stop) .stop)) (fun s h' => h' = h ∧ s 2 = .box (dcCells .zero) ∧ ((∃ l, numsPair 68 1 4 key val = some l ∧ s 4 = .own true 3 1 (l.map encI) ∧ s 5 = .v (.bool true)) ∨ (numsPair 68 1 4 key val = none ∧ s 5 = .v (.bool false)))) (by kernel_rfl) (by kernel_rfl) (by kernel_rfl) (by decide) ?_ ?_
  · simp -dsimp only [Vm.G, List.lookup, Nat.reduceAdd, Nat.reduceBEq, Int.reduceBNe, Int.reduceBEq, Nat.reduceLeDiff, q112]
    refine call_one (S := tabSpec 68 1 4) rfl _ GaL.rfl ⟨rfl, ?_⟩
    simp -dsimp only [Vm.G, List.lookup, Nat.reduceAdd, Nat.reduceBEq, Int.reduceBNe, Int.reduceBEq, Nat.reduceLeDiff, q112]
    refine call_one (S := numsSpec) rfl _ GaL.rfl ⟨68, 1, 4, key, val, by decide, hk, hv, rfl, fun l hl => ?_, fun hl => ?_, fun hl l => ?_⟩
    · simp -dsimp only [Vm.G, List.lookup, Nat.reduceAdd, Nat.reduceBEq, Int.reduceBNe, Int.reduceBEq, Nat.reduceLeDiff, q112]
      exact ⟨rfl, .inl ⟨l, hl, rfl, trivial⟩⟩
    · simp -dsimp only [Vm.G, List.lookup, Nat.reduceAdd, Nat.reduceBEq, Int.reduceBNe, Int.reduceBEq, Nat.reduceLeDiff, q112]
      exact ⟨rfl, .inr ⟨hl, trivial⟩⟩
    · simp -dsimp only [Vm.G, List.lookup, Nat.reduceAdd, Nat.reduceBEq, Int.reduceBNe, Int.reduceBEq, Nat.reduceLeDiff, q112]
      exact ⟨rfl, .inr ⟨hl, trivial⟩⟩
  · rintro s h' ⟨rfl, hs2, ⟨l, hl, hs4, hs5⟩ | ⟨hl, hs5⟩⟩
    · rw [hl] at hq1
      have hlen := numsPair_length hl
      have hq1' := hq1 (dcOf l) rfl
      clear hq1 hq2 hl
      simp only [dcCells, Dc.zero] at hs2
      match l, hlen with
      | [a0, a1, a2, a3, a4], _ =>
      simp -dsimp only [Vm.G, List.lookup, Nat.reduceAdd, Nat.reduceBEq, Int.reduceBNe, Int.reduceBEq, Nat.reduceLeDiff, q112, hs5]
      refine draw_cont [4] (.take 0 (.take 1 (.take 2 (.take 3 (.take 4 (.take 5 (.take 6 (.take 7 (.take 8 (.take 9 (.take 10 (.take 11 (.take 12 (.take 13 (.take 14 (.alt 15 (.alt 16 (.alt 17 (.done) .stop) .stop) .stop)))))))))))))))) (fun s h'' => h'' = h' ∧ s 2 = .box [.v (.int .i64 a0), .v (.int .i64 a1), .v (.int .i64 a2), .v (.int .i64 a3), .v (.int .i64 a4)] ∧ s 3 = .v (.bool true)) (by kernel_rfl) (by kernel_rfl) (by kernel_rfl) (by decide) ?_ ?_
      · simp -dsimp only [Vm.G, List.lookup, Nat.reduceAdd, Nat.reduceBEq, Int.reduceBNe, Int.reduceBEq, Nat.reduceLeDiff, q112, idx_lit, idxE_some, Int.reduceToNat, Int.reduceLE, decide_true, eq_self, hs2, hs4, hs5, encI]
        repeat' first | rfl | exact True.intro | refine And.intro ?_ ?_
      · rintro s2 h2 ⟨rfl, g2, g3⟩
        simp -dsimp only [Vm.G, List.lookup, Nat.reduceAdd, Nat.reduceBEq, Int.reduceBNe, Int.reduceBEq, Nat.reduceLeDiff, q112, g2, g3]
        exact hq1'
    · rw [hl] at hq2
      simp only [dcCells, Dc.zero] at hs2
      simp -dsimp only [Vm.G, List.lookup, Nat.reduceAdd, Nat.reduceBEq, Int.reduceBNe, Int.reduceBEq, Nat.reduceLeDiff, q112, hs2, hs5]
      exact hq2 rfl
def lineOfSpec : Vm.Spec := fun args h Q => ∃ key val : List UInt8, key.length ≤ 4611686018427387904 ∧ val.length ≤ 4611686018427387904 ∧ args = [.agg [.sl 1 (key.map encB), .sl 1 (val.map encB)]] ∧
  (∀ d, lineOf key val = some d → Q (.tup [.agg (dlCells d), .v (.bool true)]) h) ∧ (lineOf key val = none → Q (.tup [.agg (dlCells .zero), .v (.bool false)]) h)
set_option maxRecDepth 20000 in
set_option maxHeartbeats 1000000 in
theorem does_lineOf : Does Tryz.prog 185 lineOfSpec := by
  refine does_of_awp (good_cons does_docLines (good_cons does_nums good_nil)) Tryz.func185 rfl (by decide +kernel) (by decide +kernel) ?_
  rintro args h Q ⟨key, val, hk, hv, rfl, hq1, hq2⟩
  refine ⟨by simp [Tryz.f185], ?_⟩
  rw [awpFunc_some (by rfl)]
  unfold lineOf at hq1 hq2
  simp only [dlCells, Dl.zero] at hq2
  simp -dsimp only [Vm.G, List.lookup, Nat.reduceAdd, Nat.reduceBEq, Int.reduceBNe, Int.reduceBEq, Nat.reduceLeDiff, q185]
  refine draw_cont [1] (.take 1 (.alt 0 (.alt 2 (.take 3 (.take 4 (.take 5 (.alt 6 (.alt 7 (.done) .stop) .stop)))) .stop) .stop)) (fun s h' => h' = h ∧ s 2 = .box (dlCells .zero) ∧ ((∃ l, numsPair 76 2 4 key val = some l ∧ s 4 = .own true 3 1 (l.map encI) ∧ s 5 = .v (.bool true)) ∨ (numsPair 76 2 4 key val = none ∧ s 5 = .v (.bool false)))) (by kernel_rfl) (by kernel_rfl) (by kernel_rfl) (by decide) ?_ ?_
  · simp -dsimp only [Vm.G, List.lookup, Nat.reduceAdd, Nat.reduceBEq, Int.reduceBNe, Int.reduceBEq, Nat.reduceLeDiff, q185]
    refine call_one (S := tabSpec 76 2 4) rfl _ GaL.rfl ⟨rfl, ?_⟩
    simp -dsimp only [Vm.G, List.lookup, Nat.reduceAdd, Nat.reduceBEq, Int.reduceBNe, Int.reduceBEq, Nat.reduceLeDiff, q185]
    refine call_one (S := numsSpec) rfl _ GaL.rfl ⟨76, 2, 4, key, val, by decide, hk, hv, rfl, fun l hl => ?_, fun hl => ?_, fun hl l => ?_⟩
    · simp -dsimp only [Vm.G, List.lookup, Nat.reduceAdd, Nat.reduceBEq, Int.reduceBNe, Int.reduceBEq, Nat.reduceLeDiff, q185]
      exact ⟨rfl, .inl ⟨l, hl, rfl, trivial⟩⟩
    · simp -dsimp only [Vm.G, List.lookup, Nat.reduceAdd, Nat.reduceBEq, Int.reduceBNe, Int.reduceBEq, Nat.reduceLeDiff, q185]
      exact ⟨rfl, .inr ⟨hl, trivial⟩⟩
    · simp -dsimp only [Vm.G, List.lookup, Nat.reduceAdd, Nat.reduceBEq, Int.reduceBNe, Int.reduceBEq, Nat.reduceLeDiff, q185]
      exact ⟨rfl, .inr ⟨hl, trivial⟩⟩
  · rintro s h' ⟨rfl, hs2, ⟨l, hl, hs4, hs5⟩ | ⟨hl, hs5⟩⟩
    · rw [hl] at hq1
      have hlen := numsPair_length hl
      have hq1' := hq1 (dlOf l) rfl
      clear hq1 hq2 hl
      simp only [dlCells, Dl.zero] at hs2
      match l, hlen with
      | [a0, a1, a2, a3, a4, a5], _ =>
      simp -dsimp only [Vm.G, List.lookup, Nat.reduceAdd, Nat.reduceBEq, Int.reduceBNe, Int.reduceBEq, Nat.reduceLeDiff, q185, hs5]
      refine draw_cont [4] (.take 0 (.take 1 (.take 2 (.take 3 (.take 4 (.take 5 (.take 6 (.take 7 (.take 8 (.take 9 (.take 10 (.take 11 (.alt 12 (.alt 13 (.alt 14 (.done) .stop) .stop) .stop))))))))))))) (fun s h'' => h'' = h' ∧ s 2 = .box [.v (.int .i64 a2), .v (.int .i64 a3), .v (.int .i64 a4), .v (.int .i64 a5)] ∧ s 3 = .v (.bool true)) (by kernel_rfl) (by kernel_rfl) (by kernel_rfl) (by decide) ?_ ?_
      · simp -dsimp only [Vm.G, List.lookup, Nat.reduceAdd, Nat.reduceBEq, Int.reduceBNe, Int.reduceBEq, Nat.reduceLeDiff, q185, idx_lit, idxE_some, Int.reduceToNat, Int.reduceLE, decide_true, eq_self, hs2, hs4, hs5, encI]
        repeat' first | rfl | exact True.intro | refine And.intro ?_ ?_
      · rintro s2 h2 ⟨rfl, g2, g3⟩
        simp -dsimp only [Vm.G, List.lookup, Nat.reduceAdd, Nat.reduceBEq, Int.reduceBNe, Int.reduceBEq, Nat.reduceLeDiff, q185, g2, g3]
        exact hq1'
    · rw [hl] at hq2
      simp only [dlCells, Dl.zero] at hs2
      simp -dsimp only [Vm.G, List.lookup, Nat.reduceAdd, Nat.reduceBEq, Int.reduceBNe, Int.reduceBEq, Nat.reduceLeDiff, q185, hs2, hs5]
      exact hq2 rfl
def fetchSpec : Vm.Spec := fun args h Q => ∃ (V : VId) (f : Fun) (tag : UInt8) (l : List Int), l.length ≤ 15 ∧ args = [.agg [.ptr V.iv 0], .v (.int .u8 tag.toNat), .sl 1 (l.map encI)] ∧ isView h V f ∧
  (∀ v, f (keyOf tag l) = some v → Q (.tup [.agg [.sl 1 ((keyOf tag l).map encB), .sl 1 (v.map encB)], .v (.bool true)]) h) ∧ (f (keyOf tag l) = none → Q (.tup [.agg [.sl 1 ((keyOf tag l).map encB), .sl 1 []], .v (.bool false)]) h)
theorem does_fetch : Does Tryz.prog 184 fetchSpec := by
  refine does_of_awp (good_cons does_key (good_cons does_vgetW good_nil)) Tryz.func184 rfl (by decide +kernel) (by decide +kernel) ?_
  rintro args h Q ⟨V, f, tag, l, hl, rfl, hV, hq1, hq2⟩
  refine ⟨by simp [Tryz.f184], ?_⟩
  rw [awpFunc_some (by rfl)]
  simp -dsimp only [Vm.G, List.lookup, Nat.reduceAdd, Nat.reduceBEq, Int.reduceBNe, Int.reduceBEq, Nat.reduceLeDiff, q184]
  refine call_one (S := keySpec) rfl _ GaL.rfl ⟨tag, l, by omega, rfl, ?_⟩
  simp -dsimp only [Vm.G, List.lookup, Nat.reduceAdd, Nat.reduceBEq, Int.reduceBNe, Int.reduceBEq, Nat.reduceLeDiff, q184]
  refine call_one (S := vgetWSpec) rfl _ GaL.rfl ⟨V, f, keyOf tag l, rfl, hV, fun v hf => ?_, fun hf => ?_⟩
  · simp -dsimp only [Vm.G, List.lookup, Nat.reduceAdd, Nat.reduceBEq, Int.reduceBNe, Int.reduceBEq, Nat.reduceLeDiff, q184]
    exact hq1 v hf
  · simp -dsimp only [Vm.G, List.lookup, Nat.reduceAdd, Nat.reduceBEq, Int.reduceBNe, Int.reduceBEq, Nat.reduceLeDiff, q184]
    exact hq2 hf
def headOk (id : Int) (d : Dc) : Bool := (d.id == id) && (decide (d.lines ≥ 1) && decide (d.lines ≤ 6))
/-- A document's head, a line of it. -/
def docHead (f : Fun) (id : Int) : Option Dc := (f (dcK id)).bind fun v => (docOf (dcK id) v).bind fun d => if headOk id d then some d else none
def lineAt (f : Fun) (id i : Int) : Option Dl := (f (dlK id i)).bind fun v => lineOf (dlK id i) v
def docSpec : Vm.Spec := fun args h Q => ∃ (V : VId) (f : Fun) (id : Int), args = [.agg [.ptr V.iv 0], .v (.int .i64 id)] ∧ isView h V f ∧
  (∀ d, docHead f id = some d → Q (.tup [.agg (dcCells d), .v (.bool true)]) h) ∧ (docHead f id = none → ∀ d : Dc, Q (.tup [.agg (dcCells d), .v (.bool false)]) h)
set_option maxRecDepth 20000 in
set_option maxHeartbeats 1000000 in
theorem does_doc : Does Tryz.prog 109 docSpec := by
  refine does_of_awp (good_cons does_fetch (good_cons does_docOf good_nil)) Tryz.func109 rfl (by decide +kernel) (by decide +kernel) ?_
  rintro args h Q ⟨V, f, id, rfl, hV, hq1, hq2⟩
  refine ⟨by simp [Tryz.f109], ?_⟩
  rw [awpFunc_some (by rfl)]
  have hk := dcK_length id
  unfold docHead at hq1 hq2
  simp -dsimp only [Vm.G, List.lookup, Nat.reduceAdd, Nat.reduceBEq, Int.reduceBNe, Int.reduceBEq, Nat.reduceLeDiff, q109]
  refine bs_intro zr3 (by decide) (by decide) rfl rfl (by simp [solid, AV.cells]) ?_
  simp -dsimp only [Vm.G, List.lookup, Nat.reduceAdd, Nat.reduceBEq, Int.reduceBNe, Int.reduceBEq, Nat.reduceLeDiff, q109]
  refine call_one (S := fetchSpec) rfl _ GaL.rfl ⟨V, f, 68, [id], by simp, rfl, hV, fun v hf => ?_, fun hf => ?_⟩
  · have hvl := hV.len _ _ hf
    have hf : f (dcK id) = some v := hf
    rw [hf] at hq1 hq2
    simp only [Option.bind_some] at hq1 hq2
    have ek : keyOf 68 [id] = dcK id := rfl
    simp -dsimp only [Vm.G, List.lookup, Nat.reduceAdd, Nat.reduceBEq, Int.reduceBNe, Int.reduceBEq, Nat.reduceLeDiff, q109, ek]
    generalize dcK id = key at hk hq1 hq2
    refine call_one (S := docOfSpec) rfl _ GaL.rfl ⟨key, v, by omega, by omega, rfl, fun d hd => ?_, fun hd => ?_⟩
    · rw [hd] at hq1 hq2
      simp only [Option.bind_some] at hq1 hq2
      simp only [dcCells] at hq1 hq2 ⊢
      simp -dsimp only [Vm.G, List.lookup, Nat.reduceAdd, Nat.reduceBEq, Int.reduceBNe, Int.reduceBEq, Nat.reduceLeDiff, q109]
      refine draw_cont [8] (.take 0 (.take 1 (.take 2 (.take 3 (.take 5 (.alt 4 (.take 6 (.take 7 (.take 8 (.take 9 (.alt 10 (.take 11 (.take 12 (.take 13 (.take 14 (.alt 15 (.take 16 (.take 17 (.alt 18 (.alt 19 (.done) .stop) .stop))) (.alt 18 (.alt 15 (.take 16 (.take 17 (.alt 19 (.done) .stop))) .stop) (.stop))))))) .stop))))) .stop)))))) (fun s h2 => h2 = h ∧ s 4 = .box [.v (.int .i64 d.id), .v (.int .i64 d.kind), .v (.int .i64 d.year), .v (.int .i64 d.frm), .v (.int .i64 d.lines)] ∧ s 5 = .v (.bool (headOk id d))) (by kernel_rfl) (by kernel_rfl) (by kernel_rfl) (by decide) ?_ ?_
      · clear hq1 hq2
        unfold headOk
        have h1 := Bool.eq_false_or_eq_true (d.id == id)
        rcases h1 with c1 | c1
        · have h2 := Bool.eq_false_or_eq_true (decide (d.lines ≥ 1))
          rcases h2 with c2 | c2
          · repeat' first
              | with_reducible exact True.intro
              | simp -dsimp only [Vm.G, List.lookup, Nat.reduceAdd, Nat.reduceBEq, Int.reduceBNe, Int.reduceBEq, Nat.reduceLeDiff, q109, c1, c2, Bool.true_and]
              | refine tree_alt ?_ ?_
              | repeat' first | rfl | exact True.intro | refine And.intro ?_ ?_
          · repeat' first
              | with_reducible exact True.intro
              | simp -dsimp only [Vm.G, List.lookup, Nat.reduceAdd, Nat.reduceBEq, Int.reduceBNe, Int.reduceBEq, Nat.reduceLeDiff, q109, c1, c2, Bool.true_and, Bool.false_and]
              | refine tree_alt ?_ ?_
              | repeat' first | rfl | exact True.intro | refine And.intro ?_ ?_
        · repeat' first
            | with_reducible exact True.intro
            | simp -dsimp only [Vm.G, List.lookup, Nat.reduceAdd, Nat.reduceBEq, Int.reduceBNe, Int.reduceBEq, Nat.reduceLeDiff, q109, c1, Bool.false_and]
            | refine tree_alt ?_ ?_
            | repeat' first | rfl | exact True.intro | refine And.intro ?_ ?_
      · rintro s h2 ⟨rfl, e4, e5⟩
        have hd2 := Bool.eq_false_or_eq_true (headOk id d)
        rcases hd2 with c | c
        · rw [c] at e5
          simp -dsimp only [Vm.G, List.lookup, Nat.reduceAdd, Nat.reduceBEq, Int.reduceBNe, Int.reduceBEq, Nat.reduceLeDiff, q109, e4, e5]
          exact hq1 d (if_pos c)
        · rw [c] at e5
          simp -dsimp only [Vm.G, List.lookup, Nat.reduceAdd, Nat.reduceBEq, Int.reduceBNe, Int.reduceBEq, Nat.reduceLeDiff, q109, e4, e5]
          exact hq2 (if_neg (by rw [c]; decide)) d
    · rw [hd] at hq2
      have hq := hq2 rfl .zero
      simp only [dcCells, Dc.zero] at hq ⊢
      simp -dsimp only [Vm.G, List.lookup, Nat.reduceAdd, Nat.reduceBEq, Int.reduceBNe, Int.reduceBEq, Nat.reduceLeDiff, q109]
      refine draw_cont [8] (.take 0 (.take 1 (.take 2 (.take 3 (.take 5 (.alt 4 (.take 6 (.take 7 (.take 8 (.take 9 (.alt 10 (.take 11 (.take 12 (.take 13 (.take 14 (.alt 15 (.take 16 (.take 17 (.alt 18 (.alt 19 (.done) .stop) .stop))) (.alt 18 (.alt 15 (.take 16 (.take 17 (.alt 19 (.done) .stop))) .stop) (.stop))))))) .stop))))) .stop)))))) (fun s h2 => h2 = h ∧ s 4 = .box [.v (.int .i64 0), .v (.int .i64 0), .v (.int .i64 0), .v (.int .i64 0), .v (.int .i64 0)] ∧ s 5 = .v (.bool false)) (by kernel_rfl) (by kernel_rfl) (by kernel_rfl) (by decide) ?_ ?_
      · clear hq1 hq2 hq
        repeat' first
          | with_reducible exact True.intro
          | simp -dsimp only [Vm.G, List.lookup, Nat.reduceAdd, Nat.reduceBEq, Int.reduceBNe, Int.reduceBEq, Nat.reduceLeDiff, q109]
          | refine tree_alt ?_ ?_
          | repeat' first | rfl | exact True.intro | refine And.intro ?_ ?_
      · rintro s h2 ⟨rfl, e4, e5⟩
        simp -dsimp only [Vm.G, List.lookup, Nat.reduceAdd, Nat.reduceBEq, Int.reduceBNe, Int.reduceBEq, Nat.reduceLeDiff, q109, e4, e5]
        exact hq
  · have hf : f (dcK id) = none := hf
    rw [hf] at hq2
    have hq := hq2 rfl .zero
    simp only [dcCells, Dc.zero] at hq
    simp -dsimp only [Vm.G, List.lookup, Nat.reduceAdd, Nat.reduceBEq, Int.reduceBNe, Int.reduceBEq, Nat.reduceLeDiff, q109]
    exact hq
def dlineSpec : Vm.Spec := fun args h Q => ∃ (V : VId) (f : Fun) (id i : Int), args = [.agg [.ptr V.iv 0], .v (.int .i64 id), .v (.int .i64 i)] ∧ isView h V f ∧
  (∀ d, lineAt f id i = some d → Q (.tup [.agg (dlCells d), .v (.bool true)]) h) ∧ (lineAt f id i = none → Q (.tup [.agg (dlCells .zero), .v (.bool false)]) h)
set_option maxRecDepth 20000 in
theorem does_dline : Does Tryz.prog 110 dlineSpec := by
  refine does_of_awp (good_cons does_fetch (good_cons does_lineOf good_nil)) Tryz.func110 rfl (by decide +kernel) (by decide +kernel) ?_
  rintro args h Q ⟨V, f, id, i, rfl, hV, hq1, hq2⟩
  refine ⟨by simp [Tryz.f110], ?_⟩
  rw [awpFunc_some (by rfl)]
  have hk := dlK_length id i
  unfold lineAt at hq1 hq2
  simp only [dlCells, Dl.zero] at hq2
  simp -dsimp only [Vm.G, List.lookup, Nat.reduceAdd, Nat.reduceBEq, Int.reduceBNe, Int.reduceBEq, Nat.reduceLeDiff, q110]
  refine bs_intro zr3 (by decide) (by decide) rfl rfl (by simp [solid, AV.cells]) ?_
  simp -dsimp only [Vm.G, List.lookup, Nat.reduceAdd, Nat.reduceBEq, Int.reduceBNe, Int.reduceBEq, Nat.reduceLeDiff, q110]
  refine call_one (S := fetchSpec) rfl _ GaL.rfl ⟨V, f, 76, [id, i], by simp, rfl, hV, fun v hf => ?_, fun hf => ?_⟩
  · have hvl := hV.len _ _ hf
    have hf : f (dlK id i) = some v := hf
    rw [hf] at hq1 hq2
    simp only [Option.bind_some] at hq1 hq2
    have ek : keyOf 76 [id, i] = dlK id i := rfl
    simp -dsimp only [Vm.G, List.lookup, Nat.reduceAdd, Nat.reduceBEq, Int.reduceBNe, Int.reduceBEq, Nat.reduceLeDiff, q110, ek]
    generalize dlK id i = key at hk hq1 hq2
    refine call_one (S := lineOfSpec) rfl _ GaL.rfl ⟨key, v, by omega, by omega, rfl, fun d hd => ?_, fun hd => ?_⟩
    · have hq := hq1 d hd
      simp only [dlCells] at hq ⊢
      simp -dsimp only [Vm.G, List.lookup, Nat.reduceAdd, Nat.reduceBEq, Int.reduceBNe, Int.reduceBEq, Nat.reduceLeDiff, q110]
      exact hq
    · have hq := hq2 hd
      simp only [dlCells, Dl.zero]
      simp -dsimp only [Vm.G, List.lookup, Nat.reduceAdd, Nat.reduceBEq, Int.reduceBNe, Int.reduceBEq, Nat.reduceLeDiff, q110]
      exact hq
  · have hf : f (dlK id i) = none := hf
    rw [hf] at hq2
    simp -dsimp only [Vm.G, List.lookup, Nat.reduceAdd, Nat.reduceBEq, Int.reduceBNe, Int.reduceBEq, Nat.reduceLeDiff, q110]
    exact hq2 rfl
/-- A document's lines, so many. -/
def linesAt (f : Fun) (id : Int) : Nat → Option (List Dl)
  | 0 => some []
  | n + 1 => (linesAt f id n).bind fun l => (lineAt f id n).map fun x => l ++ [x]
theorem linesAt_length {f : Fun} {id : Int} : ∀ {n : Nat} {l : List Dl}, linesAt f id n = some l → l.length = n
  | 0, l, h => by cases h; rfl
  | n + 1, l, h => by
    unfold linesAt at h
    cases h1 : linesAt f id n with
    | none => rw [h1] at h; cases h
    | some l1 =>
      rw [h1] at h
      cases h2 : lineAt f id n with
      | none => rw [Option.bind_some, h2] at h; cases h
      | some x =>
        rw [Option.bind_some, h2] at h
        cases h
        simp [linesAt_length h1]
theorem linesAt_none {f : Fun} {id : Int} : ∀ {n m : Nat}, n ≤ m → linesAt f id n = none → linesAt f id m = none
  | n, 0, hle, h => by
    obtain rfl : n = 0 := by omega
    exact h
  | n, m + 1, hle, h => by
    by_cases e : n = m + 1
    · subst e; exact h
    · have := linesAt_none (m := m) (by omega) h
      unfold linesAt
      rw [this]; rfl
def docAt (f : Fun) (id : Int) : Option (Dc × List Dl) := (docHead f id).bind fun d => (linesAt f id d.lines.toNat).map fun l => (d, l)
def docsGetSpec : Vm.Spec := fun args h Q => ∃ (V : VId) (f : Fun) (id : Int), args = [.ptr V.iv 0, .v (.int .i64 id)] ∧ isView h V f ∧
  (∀ d l, docAt f id = some (d, l) → l.length ≤ 6 → d.lines = l.length → Q (.otup 1 true 62 4 (l.map dlAv) [.agg (dcCells d), .any, .v (.bool true)]) h) ∧
  (docAt f id = none → Q (.tup [.agg (dcCells .zero), .v (.slice none 0 0), .v (.bool false)]) h)
theorem headOk_iff {id : Int} {d : Dc} : headOk id d = true ↔ d.id = id ∧ 1 ≤ d.lines ∧ d.lines ≤ 6 := by
  simp [headOk]
theorem docHead_ok {f : Fun} {id : Int} {d : Dc} (h : docHead f id = some d) : d.id = id ∧ 1 ≤ d.lines ∧ d.lines ≤ 6 := by
  unfold docHead at h
  cases h1 : f (dcK id) with
  | none => rw [h1] at h; cases h
  | some v =>
    rw [h1, Option.bind_some] at h
    cases h2 : docOf (dcK id) v with
    | none => rw [h2] at h; cases h
    | some d2 =>
      rw [h2, Option.bind_some] at h
      split at h
      · rename_i hc; cases h; exact headOk_iff.1 hc
      · cases h
set_option maxRecDepth 20000 in
set_option maxHeartbeats 2000000 in
theorem does_docsGet : Does Tryz.prog 37 docsGetSpec := by
  refine does_of_awpO 1 (good_cons does_doc (good_cons does_dline good_nil)) Tryz.func37 rfl (by decide +kernel) (by decide +kernel) ?_
  rintro args h Q ⟨V, f, id, rfl, hV, hq1, hq2⟩
  refine ⟨by simp [Tryz.f37], ?_⟩
  rw [awpFuncO_some (by rfl)]
  unfold docAt at hq1 hq2
  simp only [dcCells, Dc.zero] at hq2
  simp -dsimp only [Vm.G, List.lookup, Nat.reduceAdd, Nat.reduceBEq, Int.reduceBNe, Int.reduceBEq, Nat.reduceLeDiff, q37]
  refine call_one (S := docSpec) rfl _ GaL.rfl ⟨V, f, id, rfl, hV, fun d hd => ?_, fun hd d => ?_⟩
  · rw [hd] at hq1 hq2
    simp only [Option.bind_some] at hq1 hq2
    obtain ⟨-, hd1, hd2⟩ := docHead_ok hd
    simp only [dcCells] at hq1 ⊢
    have hn : ∃ n : Nat, d.lines = n ∧ 1 ≤ n ∧ n ≤ 6 := ⟨d.lines.toNat, by omega, by omega, by omega⟩
    rcases hn with ⟨n, hn, hn1, hn6⟩
    have htn : d.lines.toNat = n := by omega
    rw [htn] at hq1 hq2
    have cz : cst (.agg #[.int .i64 0, .int .i64 0, .int .i64 0, .int .i64 0]) = dlAv .zero := by simp [cst, plain, dlAv, dlCells, Dl.zero]
    simp -dsimp only [Vm.G, List.lookup, Nat.reduceAdd, Nat.reduceBEq, Int.reduceBNe, Int.reduceBEq, Nat.reduceLeDiff, q37, hn]
    refine make_intro ei55 z62 (.inr ⟨_, rfl, by simp [plain]⟩) (by omega) (Int.le_refl _) (by omega) (by omega) ?_
    rw [cz, Int.toNat_natCast]
    simp -dsimp only [Vm.G, List.lookup, Nat.reduceAdd, Nat.reduceBEq, Int.reduceBNe, Int.reduceBEq, Nat.reduceLeDiff, q37, List.length_replicate]
    refine awp_loop (fun m s h' => ∃ (i : Nat) (l : List Dl), i + m = n ∧ h' = h ∧ linesAt f id i = some l ∧ s = mk [(1, .v (.int .i64 id)), (7, .box [.ptr V.iv 0]), (8, .box [.v (.int .i64 d.id), .v (.int .i64 d.kind), .v (.int .i64 d.year), .v (.int .i64 d.frm), .v (.int .i64 d.lines)]), (10, .own true 62 4 ((l).map dlAv ++ List.replicate (n - (i)) (dlAv .zero))), (29, .v (.int .i64 (n : Nat))), (30, .v (.int .i64 (i : Nat))), (4, .box [.v (.int .i64 0), .v (.int .i64 0), .v (.int .i64 0), .v (.int .i64 0), .v (.int .i64 0)])])
      n _ (le_mk _ ?_) ⟨0, [], by omega, rfl, rfl, rfl⟩ ?_
    · simp only [List.forall_mem_cons, List.not_mem_nil, false_imp_iff, implies_true, and_true, List.map_nil, List.nil_append, Nat.sub_zero, hn]
      try simp -dsimp only [Vm.G, List.lookup, Nat.reduceAdd, Nat.reduceBEq, Int.reduceBNe, Int.reduceBEq, Nat.reduceLeDiff, q37, List.map_nil, List.nil_append, Nat.sub_zero, hn]
      repeat' first | exact Fg.refl _ | exact Fg.nil _ _ _ (by decide) | refine And.intro ?_ ?_
    · rintro m s h' ⟨i, l, hi, rfl, hli, rfl⟩
      simp -dsimp only [Vm.G, List.lookup, Nat.reduceAdd, Nat.reduceBEq, Int.reduceBNe, Int.reduceBEq, Nat.reduceLeDiff, q37]
      refine cond_intro (fun hcc => ?_) (fun hcc => ?_)
      · have hlt : i < n := by have := of_decide_eq_true hcc; omega
        have hw : IntKind.i64.wrap ((i : Int) + 1) = ((i + 1 : Nat) : Int) := by rw [wrap_i64 (by omega) (by omega)]; simp
        have hll := linesAt_length hli
        have hsuc : linesAt f id (i + 1) = (lineAt f id i).map fun x => l ++ [x] := by
          show (linesAt f id i).bind _ = _
          rw [hli]; rfl
        simp -dsimp only [Vm.G, List.lookup, Nat.reduceAdd, Nat.reduceBEq, Int.reduceBNe, Int.reduceBEq, Nat.reduceLeDiff, q37]
        refine call_one (S := dlineSpec) rfl _ GaL.rfl ⟨V, f, id, (i : Nat), rfl, hV, fun x hx => ?_, fun hx => ?_⟩
        · rw [hx] at hsuc
          have hsuc : linesAt f id (i + 1) = some (l ++ [x]) := hsuc
          have hgi : (l.map dlAv ++ List.replicate (n - i) (dlAv .zero))[i]? = some (dlAv .zero) := by
            rw [List.getElem?_append_right (by simp; omega), List.length_map, hll, Nat.sub_self, List.getElem?_replicate, if_pos (by omega)]
          have hre : (l.map dlAv ++ List.replicate (n - i) (dlAv .zero)).set i (dlAv x) = (l ++ [x]).map dlAv ++ List.replicate (n - (i + 1)) (dlAv .zero) := by
            rw [List.set_append_right _ _ (by simp; omega), List.length_map, hll, Nat.sub_self, show n - i = (n - (i + 1)) + 1 by omega, List.replicate_succ, List.set_cons_zero]
            simp
          simp only [dlCells]
          simp -dsimp only [Vm.G, List.lookup, Nat.reduceAdd, Nat.reduceBEq, Int.reduceBNe, Int.reduceBEq, Nat.reduceLeDiff, q37]
          refine idxO_intro (by omega) (by simp; omega) ?_
          simp -dsimp only [Vm.G, List.lookup, Nat.reduceAdd, Nat.reduceBEq, Int.reduceBNe, Int.reduceBEq, Nat.reduceLeDiff, q37, Int.toNat_natCast]
          refine store_elt 62 _ (by simp -dsimp only [Vm.E, List.lookup, Nat.reduceAdd, Nat.reduceBEq, Int.reduceBNe, Int.reduceBEq, Bool.true_beq, Bool.false_beq]) (y := dlAv .zero) hgi rfl rfl (by omega) rfl ?_
          simp only [dlAv, dlCells, AV.cells, putCells, reCell, List.take_zero, List.nil_append, List.length_cons, List.length_nil, Nat.zero_add, Nat.reduceAdd, List.drop_succ_cons, List.drop_zero, List.append_nil, List.drop_nil]
          simp only [dlAv, dlCells] at hre
          simp -dsimp only [Vm.G, List.lookup, Nat.reduceAdd, Nat.reduceBEq, Int.reduceBNe, Int.reduceBEq, Nat.reduceLeDiff, q37, hre]
          refine kept_intro ⟨n - (i + 1), by omega, _, le_mk [(1, .v (.int .i64 id)), (7, .box [.ptr V.iv 0]), (8, .box [.v (.int .i64 d.id), .v (.int .i64 d.kind), .v (.int .i64 d.year), .v (.int .i64 d.frm), .v (.int .i64 d.lines)]), (10, .own true 62 4 ((l ++ [x]).map dlAv ++ List.replicate (n - (i + 1)) (dlAv .zero))), (29, .v (.int .i64 (n : Nat))), (30, .v (.int .i64 (i + 1 : Nat))), (4, .box [.v (.int .i64 0), .v (.int .i64 0), .v (.int .i64 0), .v (.int .i64 0), .v (.int .i64 0)])] ?_, i + 1, l ++ [x], by omega, rfl, hsuc, rfl⟩
          simp only [List.forall_mem_cons, List.not_mem_nil, false_imp_iff, implies_true, and_true, hw, dlAv, dlCells]
          try simp -dsimp only [Vm.G, List.lookup, Nat.reduceAdd, Nat.reduceBEq, Int.reduceBNe, Int.reduceBEq, Nat.reduceLeDiff, q37, hw, dlAv, dlCells]
          repeat' first | exact Fg.refl _ | exact Fg.nil _ _ _ (by decide) | refine And.intro ?_ ?_
        · rw [hx] at hsuc
          rw [linesAt_none (m := n) (by omega) hsuc] at hq2
          simp only [dlCells]
          simp -dsimp only [Vm.G, List.lookup, Nat.reduceAdd, Nat.reduceBEq, Int.reduceBNe, Int.reduceBEq, Nat.reduceLeDiff, q37]
          exact hq2 rfl
      · have hge : ¬ i < n := by have := of_decide_eq_false hcc; omega
        obtain rfl : i = n := by omega
        rw [hli] at hq1
        have hll := linesAt_length hli
        have hq := hq1 d l rfl (by omega) (by omega)
        clear hq1 hq2
        rw [Nat.sub_self, List.replicate_zero, List.append_nil]
        simp -dsimp only [Vm.G, List.lookup, Nat.reduceAdd, Nat.reduceBEq, Int.reduceBNe, Int.reduceBEq, Nat.reduceLeDiff, q37]
        exact hq
  · rw [hd] at hq2
    simp only [dcCells]
    simp -dsimp only [Vm.G, List.lookup, Nat.reduceAdd, Nat.reduceBEq, Int.reduceBNe, Int.reduceBEq, Nat.reduceLeDiff, q37]
    exact hq2 rfl
def docsSet (f : Fun) (id i : Int) (x : Dl) : Fun × Int := match docAt f id with
  | some (_, l) => if 0 ≤ i ∧ i < l.length then (upd f (dlK id i) (some (dlV x)), 0) else (f, 7)
  | none => (f, 7)
theorem docsSet_n (f : Fun) (id i : Int) (x : Dl) : (docsSet f id i x).1.n ≤ f.n + 1 := by
  unfold docsSet
  repeat' split
  all_goals first | exact Nat.le_succ _ | exact Nat.le_refl _
def docsSetSpec : Vm.Spec := fun args h Q => ∃ (V : VId) (f : Fun) (id i : Int) (x : Dl), I64 id ∧ I64 i ∧ x.ok ∧ args = [.ptr V.iv 0, .v (.int .i64 id), .v (.int .i64 i), dlAv x] ∧ isView h V f ∧
  ∀ h', isView h' V (docsSet f id i x).1 → Same h h' [V.ic] → Q (.v (.int .i64 (docsSet f id i x).2)) h'
set_option maxRecDepth 20000 in
set_option maxHeartbeats 1000000 in
theorem does_docsSet : Does Tryz.prog 43 docsSetSpec := by
  refine does_of_awp (good_cons does_docsGet (good_cons does_recDl (good_cons does_dset good_nil))) Tryz.func43 rfl (by decide +kernel) (by decide +kernel) ?_
  rintro args h Q ⟨V, f, id, i, x, hid, hii, hx, rfl, hV, hq⟩
  refine ⟨by simp [Tryz.f43], ?_⟩
  rw [awpFunc_some (by rfl)]
  unfold docsSet at hq
  simp only [dlAv, dlCells]
  simp -dsimp only [Vm.G, List.lookup, Nat.reduceAdd, Nat.reduceBEq, Int.reduceBNe, Int.reduceBEq, Nat.reduceLeDiff, q43]
  refine call_one (S := docsGetSpec) rfl _ GaL.rfl ⟨V, f, id, rfl, hV, fun d l hd hl6 hdl => ?_, fun hd => ?_⟩
  · rw [hd] at hq
    simp only [dcCells] at hq ⊢
    simp -dsimp only [Vm.G, List.lookup, Nat.reduceAdd, Nat.reduceBEq, Int.reduceBNe, Int.reduceBEq, Nat.reduceLeDiff, q43]
    have hd1 := Bool.eq_false_or_eq_true (decide (i < 0))
    rcases hd1 with c1 | c1
    · have d1 := of_decide_eq_true c1
      rw [if_neg (by omega)] at hq
      simp -dsimp only [Vm.G, List.lookup, Nat.reduceAdd, Nat.reduceBEq, Int.reduceBNe, Int.reduceBEq, Nat.reduceLeDiff, q43, c1]
      exact hq h hV (.refl _ _)
    · have d1 := of_decide_eq_false c1
      have hd2 := Bool.eq_false_or_eq_true (decide (i ≥ (l.length : Int)))
      rcases hd2 with c2 | c2
      · have d2 := of_decide_eq_true c2
        rw [if_neg (by omega)] at hq
        simp -dsimp only [Vm.G, List.lookup, Nat.reduceAdd, Nat.reduceBEq, Int.reduceBNe, Int.reduceBEq, Nat.reduceLeDiff, q43, c1, c2, List.length_map]
        exact hq h hV (.refl _ _)
      · have d2 := of_decide_eq_false c2
        rw [if_pos (by omega)] at hq
        simp -dsimp only [Vm.G, List.lookup, Nat.reduceAdd, Nat.reduceBEq, Int.reduceBNe, Int.reduceBEq, Nat.reduceLeDiff, q43, c1, c2, List.length_map]
        refine call_one (S := rdlSpec) rfl _ GaL.rfl ⟨id, i, x, hid, hii, hx, rfl, ?_⟩
        simp -dsimp only [Vm.G, List.lookup, Nat.reduceAdd, Nat.reduceBEq, Int.reduceBNe, Int.reduceBEq, Nat.reduceLeDiff, q43]
        refine call_one (S := dsetSpec) rfl _ GaL.rfl ⟨V, f, dlK id i, dlV x, rfl, right_dl id i x, hV, fun h2 g1 g2 => ?_⟩
        simp -dsimp only [Vm.G, List.lookup, Nat.reduceAdd, Nat.reduceBEq, Int.reduceBNe, Int.reduceBEq, Nat.reduceLeDiff, q43]
        exact hq h2 g1 g2
  · rw [hd] at hq
    simp only [dcCells, Dc.zero] at hq ⊢
    simp -dsimp only [Vm.G, List.lookup, Nat.reduceAdd, Nat.reduceBEq, Int.reduceBNe, Int.reduceBEq, Nat.reduceLeDiff, q43]
    exact hq h hV (.refl _ _)
/-- The number of a document of a year and a kind. -/
def ofYK (year kind : Int) (p : KV) : Option Int := (docOf p.1 p.2).bind fun d => if d.year = year ∧ d.kind = kind then some d.id else none
abbrev allD (year kind : Int) (l : List KV) : List Int := l.filterMap (ofYK year kind)
def docsAllSpec : Vm.Spec := fun args h Q => ∃ (V : VId) (f : Fun) (year kind : Int), args = [.ptr V.iv 0, .v (.int .i64 year), .v (.int .i64 kind)] ∧ isView h V f ∧ f.n ≤ 536870912 ∧
  ∀ l h', ScanIs f [68] l → l.length ≤ 2 * f.n → isView h' V f → Same h h' [] → Q (.own true 3 1 ((allD year kind l).map encI)) h'
set_option maxRecDepth 20000 in
set_option maxHeartbeats 1000000 in
theorem does_docsAll : Does Tryz.prog 39 docsAllSpec := by
  refine does_of_awp (good_cons does_scan (good_cons does_docOf good_nil)) Tryz.func39 rfl (by decide +kernel) (by decide +kernel) ?_
  rintro args h Q ⟨V, f, year, kind, rfl, hV, hn, hq⟩
  refine ⟨by simp [Tryz.f39], ?_⟩
  rw [awpFunc_some (by rfl)]
  simp -dsimp only [Vm.G, List.lookup, Nat.reduceAdd, Nat.reduceBEq, Int.reduceBNe, Int.reduceBEq, Nat.reduceLeDiff, q39]
  refine bs_intro zr5 (by decide) (by decide) rfl rfl (by simp [solid, AV.cells]) ?_
  simp -dsimp only [Vm.G, List.lookup, Nat.reduceAdd, Nat.reduceBEq, Int.reduceBNe, Int.reduceBEq, Nat.reduceLeDiff, q39]
  refine call_one (S := scanSpec) rfl _ GaL.rfl ⟨V, f, [68], rfl, by simp, hV, hn, fun l h1 hsc hln hV1 hs1 => ?_⟩
  simp -dsimp only [Vm.G, List.lookup, Nat.reduceAdd, Nat.reduceBEq, Int.reduceBNe, Int.reduceBEq, Nat.reduceLeDiff, q39]
  refine awp_loop (fun m s h' => ∃ i : Nat, i + m = l.length ∧ h' = h1 ∧ s = mk [(1, .v (.int .i64 year)), (2, .v (.int .i64 kind)), (7, .own true 3 1 ((allD year kind (l.take (i))).map encI)), (14, .own true 155 2 (l.map kvAv)), (15, .v (.int .i64 l.length)), (16, .v (.int .i64 (i : Nat)))])
    l.length _ (le_mk _ ?_) ⟨0, by omega, rfl, rfl⟩ ?_
  · simp only [List.forall_mem_cons, List.not_mem_nil, false_imp_iff, implies_true, and_true]
    try simp -dsimp only [Vm.G, List.lookup, Nat.reduceAdd, Nat.reduceBEq, Int.reduceBNe, Int.reduceBEq, Nat.reduceLeDiff, q39]
    repeat' first | exact Fg.refl _ | exact Fg.nil _ _ _ (by decide) | refine And.intro ?_ ?_
  · rintro m s h' ⟨i, hi, rfl, rfl⟩
    simp -dsimp only [Vm.G, List.lookup, Nat.reduceAdd, Nat.reduceBEq, Int.reduceBNe, Int.reduceBEq, Nat.reduceLeDiff, q39]
    refine cond_intro (fun hcc => ?_) (fun hcc => ?_)
    · have hlt : i < l.length := by have := of_decide_eq_true hcc; omega
      have hw : IntKind.i64.wrap ((i : Int) + 1) = ((i + 1 : Nat) : Int) := by rw [wrap_i64 (by omega) (by omega)]; simp
      have hget : (l.map kvAv)[i]? = some (kvAv l[i]) := by simp [hlt]
      have est := filterMap_step (ofYK year kind) l i hlt
      have hal : (allD year kind (l.take i)).length ≤ i := filterMap_le (ofYK year kind) l i
      have hin := ((hsc.2 l[i].1 l[i].2).1 (List.getElem_mem hlt)).1
      have hkl : l[i].1.length ≤ 32 := hV.klen hin
      have hvl : l[i].2.length ≤ 120 := hV.len _ _ hin
      clear hin
      generalize l[i] = p at hget est hkl hvl
      obtain ⟨k, v⟩ := p
      simp only at hkl hvl
      have e0 : ofYK year kind (k, v) = (docOf k v).bind fun d => if d.year = year ∧ d.kind = kind then some d.id else none := rfl
      rw [e0] at est
      clear e0
      simp -dsimp only [Vm.G, List.lookup, Nat.reduceAdd, Nat.reduceBEq, Int.reduceBNe, Int.reduceBEq, Nat.reduceLeDiff, q39]
      refine idxO_intro (by omega) (by simp; omega) ?_
      simp -dsimp only [Vm.G, List.lookup, Nat.reduceAdd, Nat.reduceBEq, Int.reduceBNe, Int.reduceBEq, Nat.reduceLeDiff, q39, Int.toNat_natCast]
      refine eltA_intro hget ?_
      simp only [kvAv]
      simp -dsimp only [Vm.G, List.lookup, Nat.reduceAdd, Nat.reduceBEq, Int.reduceBNe, Int.reduceBEq, Nat.reduceLeDiff, q39, AV.cells, List.drop_zero]
      refine call_one (S := docOfSpec) rfl _ GaL.rfl ⟨k, v, by omega, by omega, rfl, fun d hd => ?_, fun hd => ?_⟩
      · rw [hd, Option.bind_some] at est
        simp only [dcCells]
        simp -dsimp only [Vm.G, List.lookup, Nat.reduceAdd, Nat.reduceBEq, Int.reduceBNe, Int.reduceBEq, Nat.reduceLeDiff, q39]
        have hd1 := Bool.eq_false_or_eq_true (d.year == year)
        rcases hd1 with c1 | c1
        · have d1 : d.year = year := by simpa using c1
          have hd2 := Bool.eq_false_or_eq_true (d.kind == kind)
          rcases hd2 with c2 | c2
          · have d2 : d.kind = kind := by simpa using c2
            rw [if_pos ⟨d1, d2⟩] at est
            simp -dsimp only [Vm.G, List.lookup, Nat.reduceAdd, Nat.reduceBEq, Int.reduceBNe, Int.reduceBEq, Nat.reduceLeDiff, q39, c1, c2]
            refine bs_intro zr3 (by decide) (by decide) rfl rfl (by simp [solid, AV.cells]) ?_
            simp -dsimp only [Vm.G, List.lookup, Nat.reduceAdd, Nat.reduceBEq, Int.reduceBNe, Int.reduceBEq, Nat.reduceLeDiff, q39]
            refine app_sl Tryz.underlying28 (by simp [AV.cells]) (by simp only [List.length_map, List.length_cons, List.length_nil]; omega) ?_
            simp -dsimp only [Vm.G, List.lookup, Nat.reduceAdd, Nat.reduceBEq, Int.reduceBNe, Int.reduceBEq, Nat.reduceLeDiff, q39]
            refine kept_intro ⟨l.length - (i + 1), by omega, _, le_mk [(1, .v (.int .i64 year)), (2, .v (.int .i64 kind)), (7, .own true 3 1 ((allD year kind (l.take (i + 1))).map encI)), (14, .own true 155 2 (l.map kvAv)), (15, .v (.int .i64 l.length)), (16, .v (.int .i64 (i + 1 : Nat)))] ?_, i + 1, by omega, rfl, rfl⟩
            simp only [List.forall_mem_cons, List.not_mem_nil, false_imp_iff, implies_true, and_true, hw, est, Option.toList, List.append_nil, List.map_append, List.map_cons, List.map_nil, encI]
            try simp -dsimp only [Vm.G, List.lookup, Nat.reduceAdd, Nat.reduceBEq, Int.reduceBNe, Int.reduceBEq, Nat.reduceLeDiff, q39, hw, est, Option.toList, List.append_nil, List.map_append, List.map_cons, List.map_nil, encI]
            repeat' first | exact Fg.refl _ | exact Fg.nil _ _ _ (by decide) | refine And.intro ?_ ?_
          · have d2 : ¬ d.kind = kind := by simpa using c2
            rw [if_neg (fun hc => d2 hc.2)] at est
            simp -dsimp only [Vm.G, List.lookup, Nat.reduceAdd, Nat.reduceBEq, Int.reduceBNe, Int.reduceBEq, Nat.reduceLeDiff, q39, c1, c2]
            refine kept_intro ⟨l.length - (i + 1), by omega, _, le_mk [(1, .v (.int .i64 year)), (2, .v (.int .i64 kind)), (7, .own true 3 1 ((allD year kind (l.take (i + 1))).map encI)), (14, .own true 155 2 (l.map kvAv)), (15, .v (.int .i64 l.length)), (16, .v (.int .i64 (i + 1 : Nat)))] ?_, i + 1, by omega, rfl, rfl⟩
            simp only [List.forall_mem_cons, List.not_mem_nil, false_imp_iff, implies_true, and_true, hw, est, Option.toList, List.append_nil, List.map_append, List.map_cons, List.map_nil, encI]
            try simp -dsimp only [Vm.G, List.lookup, Nat.reduceAdd, Nat.reduceBEq, Int.reduceBNe, Int.reduceBEq, Nat.reduceLeDiff, q39, hw, est, Option.toList, List.append_nil, List.map_append, List.map_cons, List.map_nil, encI]
            repeat' first | exact Fg.refl _ | exact Fg.nil _ _ _ (by decide) | refine And.intro ?_ ?_
        · have d1 : ¬ d.year = year := by simpa using c1
          rw [if_neg (fun hc => d1 hc.1)] at est
          simp -dsimp only [Vm.G, List.lookup, Nat.reduceAdd, Nat.reduceBEq, Int.reduceBNe, Int.reduceBEq, Nat.reduceLeDiff, q39, c1]
          refine kept_intro ⟨l.length - (i + 1), by omega, _, le_mk [(1, .v (.int .i64 year)), (2, .v (.int .i64 kind)), (7, .own true 3 1 ((allD year kind (l.take (i + 1))).map encI)), (14, .own true 155 2 (l.map kvAv)), (15, .v (.int .i64 l.length)), (16, .v (.int .i64 (i + 1 : Nat)))] ?_, i + 1, by omega, rfl, rfl⟩
          simp only [List.forall_mem_cons, List.not_mem_nil, false_imp_iff, implies_true, and_true, hw, est, Option.toList, List.append_nil, List.map_append, List.map_cons, List.map_nil, encI]
          try simp -dsimp only [Vm.G, List.lookup, Nat.reduceAdd, Nat.reduceBEq, Int.reduceBNe, Int.reduceBEq, Nat.reduceLeDiff, q39, hw, est, Option.toList, List.append_nil, List.map_append, List.map_cons, List.map_nil, encI]
          repeat' first | exact Fg.refl _ | exact Fg.nil _ _ _ (by decide) | refine And.intro ?_ ?_
      · rw [hd, Option.bind_none] at est
        simp only [dcCells, Dc.zero]
        simp -dsimp only [Vm.G, List.lookup, Nat.reduceAdd, Nat.reduceBEq, Int.reduceBNe, Int.reduceBEq, Nat.reduceLeDiff, q39]
        refine kept_intro ⟨l.length - (i + 1), by omega, _, le_mk [(1, .v (.int .i64 year)), (2, .v (.int .i64 kind)), (7, .own true 3 1 ((allD year kind (l.take (i + 1))).map encI)), (14, .own true 155 2 (l.map kvAv)), (15, .v (.int .i64 l.length)), (16, .v (.int .i64 (i + 1 : Nat)))] ?_, i + 1, by omega, rfl, rfl⟩
        simp only [List.forall_mem_cons, List.not_mem_nil, false_imp_iff, implies_true, and_true, hw, est, Option.toList, List.append_nil, List.map_append, List.map_cons, List.map_nil, encI]
        try simp -dsimp only [Vm.G, List.lookup, Nat.reduceAdd, Nat.reduceBEq, Int.reduceBNe, Int.reduceBEq, Nat.reduceLeDiff, q39, hw, est, Option.toList, List.append_nil, List.map_append, List.map_cons, List.map_nil, encI]
        repeat' first | exact Fg.refl _ | exact Fg.nil _ _ _ (by decide) | refine And.intro ?_ ?_
    · have hge : ¬ i < l.length := by have := of_decide_eq_false hcc; omega
      simp -dsimp only [Vm.G, List.lookup, Nat.reduceAdd, Nat.reduceBEq, Int.reduceBNe, Int.reduceBEq, Nat.reduceLeDiff, q39]
      rw [List.take_of_length_le (by omega)]
      exact hq l h' hsc hln hV1 hs1
def lastSpec : Vm.Spec := fun args h Q => ∃ (V : VId) (f : Fun), args = [.ptr V.iv 0] ∧ isView h V f ∧ Q (.v (.int .i64 (readOf f (seqKey 2)))) h
theorem does_docsLast : Does Tryz.prog 46 lastSpec := by
  refine does_of_awp (good_cons does_seqLast good_nil) Tryz.func46 rfl (by decide +kernel) (by decide +kernel) ?_
  rintro args h Q ⟨V, f, rfl, hV, hq⟩
  refine ⟨by simp [Tryz.f46], ?_⟩
  rw [awpFunc_some (by rfl)]
  simp -dsimp only [Vm.G, List.lookup, Nat.reduceAdd, Nat.reduceBEq, Int.reduceBNe, Int.reduceBEq, Nat.reduceLeDiff, q46]
  refine call_one (S := seqLastSpec) rfl _ GaL.rfl ⟨V, f, 2, rfl, hV, ?_⟩
  simp -dsimp only [Vm.G, List.lookup, Nat.reduceAdd, Nat.reduceBEq, Int.reduceBNe, Int.reduceBEq, Nat.reduceLeDiff, q46]
  exact hq
def openD (x : Dl) : Int := w64 (x.orig - w64 (x.liq + x.can))
def openDSpec : Vm.Spec := fun args h Q => ∃ x : Dl, args = [dlAv x] ∧ Q (.v (.int .i64 (openD x))) h
theorem does_docsOpen : Does Tryz.prog 48 openDSpec := by
  refine does_of_awp good_nil Tryz.func48 rfl (by decide +kernel) (by decide +kernel) ?_
  rintro args h Q ⟨x, rfl, hq⟩
  refine ⟨by simp [Tryz.f48], ?_⟩
  rw [awpFunc_some (by rfl)]
  simp only [dlAv, dlCells]
  simp -dsimp only [Vm.G, List.lookup, Nat.reduceAdd, Nat.reduceBEq, Int.reduceBNe, Int.reduceBEq, Nat.reduceLeDiff, q48]
  exact hq
def inD (n : Int) : Bool := decide (n ≥ 0) && decide (n ≤ 1152921504606846976)
def rightD (x : Dl) : Bool := inD x.orig && (inD x.liq && (inD x.can && inD (openD x)))
def rightDSpec : Vm.Spec := fun args h Q => ∃ x : Dl, args = [dlAv x] ∧ Q (.v (.bool (rightD x))) h
def fourD (x : Dl) : List Int := [x.orig, x.liq, x.can, openD x]
theorem rightD_four (x : Dl) : rightD x = (fourD x).all inD := by
  unfold rightD fourD
  simp [List.all_cons]
set_option maxRecDepth 20000 in
set_option maxHeartbeats 2000000 in
theorem does_docsRight : Does Tryz.prog 50 rightDSpec := by
  refine does_of_awp (good_cons does_docsOpen good_nil) Tryz.func50 rfl (by decide +kernel) (by decide +kernel) ?_
  rintro args h Q ⟨x, rfl, hq⟩
  refine ⟨by simp [Tryz.f50], ?_⟩
  rw [awpFunc_some (by rfl)]
  rw [rightD_four] at hq
  simp only [dlAv, dlCells]
  simp -dsimp only [Vm.G, List.lookup, Nat.reduceAdd, Nat.reduceBEq, Int.reduceBNe, Int.reduceBEq, Nat.reduceLeDiff, q50]
  refine draw_cont [1] (.take 0 (.take 1 (.take 2 (.take 3 (.take 4 (.take 5 (.take 6 (.take 9 (.alt 7 (.alt 8 (.done) .stop) .stop))))))))) (fun s h2 => h2 = h ∧ s 2 = .v (.bool false) ∧ s 13 = .agg ((fourD x).map encI) ∧ s 14 = .v (.int .i64 0)) (by kernel_rfl) (by kernel_rfl) (by kernel_rfl) (by decide) ?_ ?_
  · clear hq
    simp only [fourD, List.map_cons, List.map_nil, encI]
    repeat' first
      | with_reducible exact True.intro
      | refine call_one (S := openDSpec) rfl _ GaL.rfl ⟨x, rfl, ?_⟩
      | simp -dsimp only [Vm.G, List.lookup, Nat.reduceAdd, Nat.reduceBEq, Int.reduceBNe, Int.reduceBEq, Nat.reduceLeDiff, q50]
      | refine tree_alt ?_ ?_
      | repeat' first | rfl | exact True.intro | refine And.intro ?_ ?_
  · rintro s h2 ⟨rfl, e2, e13, e14⟩
    have h4 : (fourD x).length = 4 := rfl
    generalize fourD x = l at h4 hq e13
    simp -dsimp only [Vm.G, List.lookup, Nat.reduceAdd, Nat.reduceBEq, Int.reduceBNe, Int.reduceBEq, Nat.reduceLeDiff, q50, e2, e13, e14]
    refine awp_loop (fun m s h' => ∃ i : Nat, i + m = 4 ∧ h' = h2 ∧ (∀ j (hj : j < l.length), j < i → inD l[j] = true) ∧ s = mk [(2, .v (.bool false)), (13, .agg (l.map encI)), (14, .v (.int .i64 (i : Nat)))])
      4 _ (le_mk _ ?_) ⟨0, by omega, rfl, fun j _ hj => by omega, rfl⟩ ?_
    · simp only [List.forall_mem_cons, List.not_mem_nil, false_imp_iff, implies_true, and_true, e2, e13, e14]
      try simp -dsimp only [Vm.G, List.lookup, Nat.reduceAdd, Nat.reduceBEq, Int.reduceBNe, Int.reduceBEq, Nat.reduceLeDiff, q50, e2, e13, e14]
      repeat' first | exact Fg.refl _ | exact Fg.nil _ _ _ (by decide) | refine And.intro ?_ ?_
    · clear e2 e13 e14
      rintro m s h' ⟨i, hi, rfl, hb, rfl⟩
      simp -dsimp only [Vm.G, List.lookup, Nat.reduceAdd, Nat.reduceBEq, Int.reduceBNe, Int.reduceBEq, Nat.reduceLeDiff, q50]
      refine cond_intro (fun hcc => ?_) (fun hcc => ?_)
      · have hlt : i < l.length := by have := of_decide_eq_true hcc; omega
        have hw : IntKind.i64.wrap ((i : Int) + 1) = ((i + 1 : Nat) : Int) := by rw [wrap_i64 (by omega) (by omega)]; simp
        have hget : (l.map encI)[(i : Int).toNat]? = some (encI l[i]) := by simp [hlt]
        have hno : inD l[i] = false → l.all inD = false := fun hp => List.all_eq_false.2 ⟨l[i], List.getElem_mem hlt, by rw [hp]; decide⟩
        have hyes : inD l[i] = true → ∀ j (hj : j < l.length), j < i + 1 → inD l[j] = true := fun hp j hj hj2 => by
          by_cases hji : j = i
          · subst hji; exact hp
          · exact hb j hj (by omega)
        generalize l[i] = n at hget hno hyes
        simp only [encI] at hget
        simp -dsimp only [Vm.G, List.lookup, Nat.reduceAdd, Nat.reduceBEq, Int.reduceBNe, Int.reduceBEq, Nat.reduceLeDiff, q50]
        refine index_arr un174 un3 (by kernel_rfl) (by omega) (by omega) hget ?_
        simp -dsimp only [Vm.G, List.lookup, Nat.reduceAdd, Nat.reduceBEq, Int.reduceBNe, Int.reduceBEq, Nat.reduceLeDiff, q50]
        have hd1 := Bool.eq_false_or_eq_true (decide (n < 0))
        rcases hd1 with c1 | c1
        · have d1 := of_decide_eq_true c1
          rw [hno (by unfold inD; rw [decide_eq_false (p := n ≥ 0) (by omega)]; rfl)] at hq
          simp -dsimp only [Vm.G, List.lookup, Nat.reduceAdd, Nat.reduceBEq, Int.reduceBNe, Int.reduceBEq, Nat.reduceLeDiff, q50, c1]
          exact hq
        · have d1 := of_decide_eq_false c1
          have hd2 := Bool.eq_false_or_eq_true (decide (n > 1152921504606846976))
          rcases hd2 with c2 | c2
          · have d2 := of_decide_eq_true c2
            rw [hno (by unfold inD; rw [decide_eq_true (p := n ≥ 0) (by omega), decide_eq_false (by omega)]; rfl)] at hq
            simp -dsimp only [Vm.G, List.lookup, Nat.reduceAdd, Nat.reduceBEq, Int.reduceBNe, Int.reduceBEq, Nat.reduceLeDiff, q50, c1, c2]
            exact hq
          · have d2 := of_decide_eq_false c2
            have hin : inD n = true := by unfold inD; rw [decide_eq_true (p := n ≥ 0) (by omega), decide_eq_true (by omega)]; rfl
            simp -dsimp only [Vm.G, List.lookup, Nat.reduceAdd, Nat.reduceBEq, Int.reduceBNe, Int.reduceBEq, Nat.reduceLeDiff, q50, c1, c2]
            refine kept_intro ⟨4 - (i + 1), by omega, _, le_mk [(2, .v (.bool false)), (13, .agg (l.map encI)), (14, .v (.int .i64 (i + 1 : Nat)))] ?_, i + 1, by omega, rfl, hyes hin, rfl⟩
            simp only [List.forall_mem_cons, List.not_mem_nil, false_imp_iff, implies_true, and_true, hw]
            try simp -dsimp only [Vm.G, List.lookup, Nat.reduceAdd, Nat.reduceBEq, Int.reduceBNe, Int.reduceBEq, Nat.reduceLeDiff, q50, hw]
            repeat' first | exact Fg.refl _ | exact Fg.nil _ _ _ (by decide) | refine And.intro ?_ ?_
      · have hge : ¬ i < 4 := by have := of_decide_eq_false hcc; omega
        have hall : l.all inD = true := List.all_eq_true.2 fun y hy => by
          obtain ⟨j, hj, rfl⟩ := List.getElem_of_mem hy
          exact hb j hj (by omega)
        rw [hall] at hq
        simp -dsimp only [Vm.G, List.lookup, Nat.reduceAdd, Nat.reduceBEq, Int.reduceBNe, Int.reduceBEq, Nat.reduceLeDiff, q50]
        exact hq
end Go.Proofs.Lx
/- Documents, the reference's: ref30. -/
set_option linter.unusedSimpArgs false
set_option linter.unusedVariables false
namespace Go.Proofs.Lx
open Go.Vm
attribute [local irreducible] awpArr awpBin awpMake awpAppend awpCvX awpStrOf awpBinX awpSlice awpBS awpStore awpAlloc awpCopy awpIndex awpDraw awpIdxX awpFa awpField awpLookup awpUpdate awpDelete awpClear awpRange awpNext awpEntry awpBuild awpClearS awpIdxL awpTree appB awpIdxO eltA treeA
theorem does_rDl : Does Tryz.prog 117 rdlSpec := by
  refine does_of_awp (good_cons does_rPair good_nil) Tryz.func117 rfl (by decide +kernel) (by decide +kernel) ?_
  rintro args h Q ⟨id, i, x, hid, hi, ⟨o1, o2, o3, o4⟩, rfl, hq⟩
  refine ⟨by simp [Tryz.f117], ?_⟩
  rw [awpFunc_some (by rfl)]
  simp only [dlAv, dlCells]
  simp -dsimp only [Vm.G, List.lookup, Nat.reduceAdd, Nat.reduceBEq, Int.reduceBNe, Int.reduceBEq, Nat.reduceLeDiff, q117]
  refine bs_intro zr3 (by decide) (by decide) rfl rfl (by simp [solid, AV.cells]) ?_
  simp -dsimp only [Vm.G, List.lookup, Nat.reduceAdd, Nat.reduceBEq, Int.reduceBNe, Int.reduceBEq, Nat.reduceLeDiff, q117]
  refine bs_intro zr3 (by decide) (by decide) rfl rfl (by simp [solid, AV.cells]) ?_
  simp -dsimp only [Vm.G, List.lookup, Nat.reduceAdd, Nat.reduceBEq, Int.reduceBNe, Int.reduceBEq, Nat.reduceLeDiff, q117]
  refine call_one (S := rPairSpec) rfl _ GaL.rfl ⟨76, [id, i], [x.node, x.orig, x.liq, x.can], by simp, by simp, ?_, rfl, ?_⟩
  · intro m hm
    simp only [List.mem_cons, List.not_mem_nil, or_false] at hm
    rcases hm with rfl | rfl | rfl | rfl <;> assumption
  · simp -dsimp only [Vm.G, List.lookup, Nat.reduceAdd, Nat.reduceBEq, Int.reduceBNe, Int.reduceBEq, Nat.reduceLeDiff, q117]
    exact hq
theorem does_rDc : Does Tryz.prog 118 rdcSpec := by
  refine does_of_awp (good_cons does_rPair good_nil) Tryz.func118 rfl (by decide +kernel) (by decide +kernel) ?_
  rintro args h Q ⟨d, ⟨o1, o2, o3, o4, o5⟩, rfl, hq⟩
  refine ⟨by simp [Tryz.f118], ?_⟩
  rw [awpFunc_some (by rfl)]
  simp only [dcCells]
  simp -dsimp only [Vm.G, List.lookup, Nat.reduceAdd, Nat.reduceBEq, Int.reduceBNe, Int.reduceBEq, Nat.reduceLeDiff, q118]
  refine bs_intro zr3 (by decide) (by decide) rfl rfl (by simp [solid, AV.cells]) ?_
  simp -dsimp only [Vm.G, List.lookup, Nat.reduceAdd, Nat.reduceBEq, Int.reduceBNe, Int.reduceBEq, Nat.reduceLeDiff, q118]
  refine bs_intro zr3 (by decide) (by decide) rfl rfl (by simp [solid, AV.cells]) ?_
  simp -dsimp only [Vm.G, List.lookup, Nat.reduceAdd, Nat.reduceBEq, Int.reduceBNe, Int.reduceBEq, Nat.reduceLeDiff, q118]
  refine call_one (S := rPairSpec) rfl _ GaL.rfl ⟨68, [d.id], [d.kind, d.year, d.frm, d.lines], by simp, by simp, ?_, rfl, ?_⟩
  · intro m hm
    simp only [List.mem_cons, List.not_mem_nil, or_false] at hm
    rcases hm with rfl | rfl | rfl | rfl <;> assumption
  · simp -dsimp only [Vm.G, List.lookup, Nat.reduceAdd, Nat.reduceBEq, Int.reduceBNe, Int.reduceBEq, Nat.reduceLeDiff, q118]
    exact hq
def rDocOfSpec : Vm.Spec := fun args h Q => ∃ key val : List UInt8, key.length ≤ 1073741824 ∧ val.length ≤ 1073741824 ∧ args = [.agg [.sl 1 (key.map encB), .sl 1 (val.map encB)]] ∧
  (∀ d, docOf key val = some d → Q (.tup [.agg (dcCells d), .v (.bool true)]) h) ∧ (docOf key val = none → Q (.tup [.agg (dcCells .zero), .v (.bool false)]) h)
set_option maxRecDepth 20000 in
set_option maxHeartbeats 1000000 in
theorem does_rDocOf : Does Tryz.prog 120 rDocOfSpec := by
  refine does_of_awp (good_cons does_rBoth good_nil) Tryz.func120 rfl (by decide +kernel) (by decide +kernel) ?_
  rintro args h Q ⟨key, val, hk, hv, rfl, hq1, hq2⟩
  refine ⟨by simp [Tryz.f120], ?_⟩
  rw [awpFunc_some (by rfl)]
  unfold docOf at hq1 hq2
  rw [both_nums] at hq1 hq2
  simp only [dcCells, Dc.zero] at hq2
  simp -dsimp only [Vm.G, List.lookup, Nat.reduceAdd, Nat.reduceBEq, Int.reduceBNe, Int.reduceBEq, Nat.reduceLeDiff, q120]
  refine call_one (S := rBothSpec) rfl _ GaL.rfl ⟨68, 1, 4, key, val, by omega, by omega, hk, hv, rfl, fun p hp => ?_, fun hp a b => ?_⟩
  · have hlen := both_length hp
    obtain ⟨kl, vl⟩ := p
    obtain ⟨hl1, hl2⟩ := hlen
    match kl, hl1 with
    | [k0], _ =>
    match vl, hl2 with
    | [b0, b1, b2, b3], _ =>
    rw [hp] at hq1
    have hq1' := hq1 _ rfl
    clear hq1 hq2 hp
    simp -dsimp only [Vm.G, List.lookup, Nat.reduceAdd, Nat.reduceBEq, Int.reduceBNe, Int.reduceBEq, Nat.reduceLeDiff, q120]
    refine draw_cont [] (.take 0 (.take 1 (.take 2 (.take 3 (.take 4 (.take 5 (.take 6 (.take 7 (.take 8 (.take 9 (.take 10 (.take 11 (.take 12 (.take 13 (.take 14 (.alt 15 (.alt 16 (.alt 17 (.done) .stop) .stop) .stop)))))))))))))))) (fun s h2 => h2 = h ∧ s 2 = .box (dcCells ⟨k0, b0, b1, b2, b3⟩) ∧ s 3 = .v (.bool true)) (by kernel_rfl) (by kernel_rfl) (by kernel_rfl) (by decide) ?_ ?_
    · simp -dsimp only [Vm.G, List.lookup, Nat.reduceAdd, Nat.reduceBEq, Int.reduceBNe, Int.reduceBEq, Nat.reduceLeDiff, q120, idx_lit, idxE_some, Int.reduceToNat, Int.reduceLE, decide_true, eq_self, encI]
      repeat' first | rfl | exact True.intro | refine And.intro ?_ ?_
    · rintro s h2 ⟨rfl, e2, e3⟩
      simp only [dcCells] at e2
      simp -dsimp only [Vm.G, List.lookup, Nat.reduceAdd, Nat.reduceBEq, Int.reduceBNe, Int.reduceBEq, Nat.reduceLeDiff, q120, e2, e3]
      exact hq1'
  · rw [hp] at hq2
    simp -dsimp only [Vm.G, List.lookup, Nat.reduceAdd, Nat.reduceBEq, Int.reduceBNe, Int.reduceBEq, Nat.reduceLeDiff, q120]
    exact hq2 rfl
def rLineOfSpec : Vm.Spec := fun args h Q => ∃ key val : List UInt8, key.length ≤ 1073741824 ∧ val.length ≤ 1073741824 ∧ args = [.agg [.sl 1 (key.map encB), .sl 1 (val.map encB)]] ∧
  (∀ d, lineOf key val = some d → Q (.tup [.agg (dlCells d), .v (.bool true)]) h) ∧ (lineOf key val = none → Q (.tup [.agg (dlCells .zero), .v (.bool false)]) h)
set_option maxRecDepth 20000 in
set_option maxHeartbeats 1000000 in
theorem does_rLineOf : Does Tryz.prog 199 rLineOfSpec := by
  refine does_of_awp (good_cons does_rBoth good_nil) Tryz.func199 rfl (by decide +kernel) (by decide +kernel) ?_
  rintro args h Q ⟨key, val, hk, hv, rfl, hq1, hq2⟩
  refine ⟨by simp [Tryz.f199], ?_⟩
  rw [awpFunc_some (by rfl)]
  unfold lineOf at hq1 hq2
  rw [both_nums] at hq1 hq2
  simp only [dlCells, Dl.zero] at hq2
  simp -dsimp only [Vm.G, List.lookup, Nat.reduceAdd, Nat.reduceBEq, Int.reduceBNe, Int.reduceBEq, Nat.reduceLeDiff, q199]
  refine call_one (S := rBothSpec) rfl _ GaL.rfl ⟨76, 2, 4, key, val, by omega, by omega, hk, hv, rfl, fun p hp => ?_, fun hp a b => ?_⟩
  · have hlen := both_length hp
    obtain ⟨kl, vl⟩ := p
    obtain ⟨hl1, hl2⟩ := hlen
    match kl, hl1 with
    | [k0, k1], _ =>
    match vl, hl2 with
    | [b0, b1, b2, b3], _ =>
    rw [hp] at hq1
    have hq1' := hq1 _ rfl
    clear hq1 hq2 hp
    simp -dsimp only [Vm.G, List.lookup, Nat.reduceAdd, Nat.reduceBEq, Int.reduceBNe, Int.reduceBEq, Nat.reduceLeDiff, q199]
    refine draw_cont [] (.take 0 (.take 1 (.take 2 (.take 3 (.take 4 (.take 5 (.take 6 (.take 7 (.take 8 (.take 9 (.take 10 (.take 11 (.alt 12 (.alt 13 (.alt 14 (.done) .stop) .stop) .stop))))))))))))) (fun s h2 => h2 = h ∧ s 2 = .box (dlCells ⟨b0, b1, b2, b3⟩) ∧ s 3 = .v (.bool true)) (by kernel_rfl) (by kernel_rfl) (by kernel_rfl) (by decide) ?_ ?_
    · simp -dsimp only [Vm.G, List.lookup, Nat.reduceAdd, Nat.reduceBEq, Int.reduceBNe, Int.reduceBEq, Nat.reduceLeDiff, q199, idx_lit, idxE_some, Int.reduceToNat, Int.reduceLE, decide_true, eq_self, encI]
      repeat' first | rfl | exact True.intro | refine And.intro ?_ ?_
    · rintro s h2 ⟨rfl, e2, e3⟩
      simp only [dlCells] at e2
      simp -dsimp only [Vm.G, List.lookup, Nat.reduceAdd, Nat.reduceBEq, Int.reduceBNe, Int.reduceBEq, Nat.reduceLeDiff, q199, e2, e3]
      exact hq1'
  · rw [hp] at hq2
    simp -dsimp only [Vm.G, List.lookup, Nat.reduceAdd, Nat.reduceBEq, Int.reduceBNe, Int.reduceBEq, Nat.reduceLeDiff, q199]
    exact hq2 rfl
theorem lineOf_nil (key : List UInt8) : lineOf key [] = none := by
  unfold lineOf numsPair
  cases splitOf key with
  | none => rfl
  | some p => simp
theorem docOf_nil (key : List UInt8) : docOf key [] = none := by
  unfold docOf numsPair
  cases splitOf key with
  | none => rfl
  | some p => simp
def rlineSpec : Vm.Spec := fun args h Q => ∃ (R : RId) (f : Fun) (id i : Int), args = [.ptr R.iv 0, .v (.int .i64 id), .v (.int .i64 i)] ∧ isRef h R f ∧ f.n ≤ 536870912 ∧
  (∀ d, lineAt f id i = some d → Q (.tup [.agg (dlCells d), .v (.bool true)]) h) ∧ (lineAt f id i = none → Q (.tup [.agg (dlCells .zero), .v (.bool false)]) h)
set_option maxRecDepth 20000 in
theorem does_rline : Does Tryz.prog 121 rlineSpec := by
  refine does_of_awp (good_cons does_rKey (good_cons does_rGet (good_cons does_rLineOf good_nil))) Tryz.func121 rfl (by decide +kernel) (by decide +kernel) ?_
  rintro args h Q ⟨R, f, id, i, rfl, hR, hfn, hq1, hq2⟩
  refine ⟨by simp [Tryz.f121], ?_⟩
  rw [awpFunc_some (by rfl)]
  have hk := dlK_length id i
  unfold lineAt at hq1 hq2
  simp only [dlCells, Dl.zero] at hq2
  simp -dsimp only [Vm.G, List.lookup, Nat.reduceAdd, Nat.reduceBEq, Int.reduceBNe, Int.reduceBEq, Nat.reduceLeDiff, q121]
  refine bs_intro zr3 (by decide) (by decide) rfl rfl (by simp [solid, AV.cells]) ?_
  simp -dsimp only [Vm.G, List.lookup, Nat.reduceAdd, Nat.reduceBEq, Int.reduceBNe, Int.reduceBEq, Nat.reduceLeDiff, q121]
  refine call_one (S := keySpec) rfl _ GaL.rfl ⟨76, [id, i], by simp, rfl, ?_⟩
  have ek : keyOf 76 [id, i] = dlK id i := rfl
  simp -dsimp only [Vm.G, List.lookup, Nat.reduceAdd, Nat.reduceBEq, Int.reduceBNe, Int.reduceBEq, Nat.reduceLeDiff, q121, ek]
  generalize dlK id i = key at hk hq1 hq2 ⊢
  refine call_one (S := rGetSpec) rfl _ GaL.rfl ⟨R, f, key, rfl, hR, hfn, fun v hf => ?_, fun hf => ?_⟩
  · have hvl := (hR.len hf).2
    rw [hf] at hq1 hq2
    simp only [Option.bind_some] at hq1 hq2
    simp -dsimp only [Vm.G, List.lookup, Nat.reduceAdd, Nat.reduceBEq, Int.reduceBNe, Int.reduceBEq, Nat.reduceLeDiff, q121]
    refine call_one (S := rLineOfSpec) rfl _ GaL.rfl ⟨key, v, by omega, by omega, rfl, fun d hd => ?_, fun hd => ?_⟩
    · have hq := hq1 d hd
      simp only [dlCells] at hq ⊢
      simp -dsimp only [Vm.G, List.lookup, Nat.reduceAdd, Nat.reduceBEq, Int.reduceBNe, Int.reduceBEq, Nat.reduceLeDiff, q121]
      exact hq
    · have hq := hq2 hd
      simp only [dlCells, Dl.zero]
      simp -dsimp only [Vm.G, List.lookup, Nat.reduceAdd, Nat.reduceBEq, Int.reduceBNe, Int.reduceBEq, Nat.reduceLeDiff, q121]
      exact hq
  · rw [hf] at hq2
    simp -dsimp only [Vm.G, List.lookup, Nat.reduceAdd, Nat.reduceBEq, Int.reduceBNe, Int.reduceBEq, Nat.reduceLeDiff, q121]
    refine call_one (S := rLineOfSpec) rfl _ GaL.rfl ⟨key, [], by omega, by simp, rfl, fun d hd => ?_, fun hd => ?_⟩
    · rw [lineOf_nil] at hd; cases hd
    · simp only [dlCells, Dl.zero]
      simp -dsimp only [Vm.G, List.lookup, Nat.reduceAdd, Nat.reduceBEq, Int.reduceBNe, Int.reduceBEq, Nat.reduceLeDiff, q121]
      exact hq2 rfl
def rDocsGetSpec : Vm.Spec := fun args h Q => ∃ (R : RId) (f : Fun) (id : Int), args = [.ptr R.iv 0, .v (.int .i64 id)] ∧ isRef h R f ∧ f.n ≤ 536870912 ∧
  (∀ d l, docAt f id = some (d, l) → l.length ≤ 6 → d.lines = l.length → Q (.otup 1 true 62 4 (l.map dlAv) [.agg (dcCells d), .any, .v (.bool true)]) h) ∧
  (docAt f id = none → Q (.tup [.agg (dcCells .zero), .v (.slice none 0 0), .v (.bool false)]) h)
set_option maxRecDepth 20000 in
set_option maxHeartbeats 2000000 in
theorem does_rDocsGet : Does Tryz.prog 45 rDocsGetSpec := by
  refine does_of_awpO 1 (good_cons does_rKey (good_cons does_rGet (good_cons does_rDocOf (good_cons does_rline good_nil)))) Tryz.func45 rfl (by decide +kernel) (by decide +kernel) ?_
  rintro args h Q ⟨R, f, id, rfl, hR, hfn, hq1, hq2⟩
  refine ⟨by simp [Tryz.f45], ?_⟩
  rw [awpFuncO_some (by rfl)]
  have hk := dcK_length id
  unfold docAt docHead at hq1 hq2
  simp only [dcCells, Dc.zero] at hq2
  simp -dsimp only [Vm.G, List.lookup, Nat.reduceAdd, Nat.reduceBEq, Int.reduceBNe, Int.reduceBEq, Nat.reduceLeDiff, q45]
  refine bs_intro zr3 (by decide) (by decide) rfl rfl (by simp [solid, AV.cells]) ?_
  simp -dsimp only [Vm.G, List.lookup, Nat.reduceAdd, Nat.reduceBEq, Int.reduceBNe, Int.reduceBEq, Nat.reduceLeDiff, q45]
  refine call_one (S := keySpec) rfl _ GaL.rfl ⟨68, [id], by simp, rfl, ?_⟩
  have ek : keyOf 68 [id] = dcK id := rfl
  simp -dsimp only [Vm.G, List.lookup, Nat.reduceAdd, Nat.reduceBEq, Int.reduceBNe, Int.reduceBEq, Nat.reduceLeDiff, q45, ek]
  generalize dcK id = key at hk hq1 hq2 ⊢
  refine call_one (S := rGetSpec) rfl _ GaL.rfl ⟨R, f, key, rfl, hR, hfn, fun v hf => ?_, fun hf => ?_⟩
  · have hvl := (hR.len hf).2
    rw [hf] at hq1 hq2
    simp only [Option.bind_some] at hq1 hq2
    simp -dsimp only [Vm.G, List.lookup, Nat.reduceAdd, Nat.reduceBEq, Int.reduceBNe, Int.reduceBEq, Nat.reduceLeDiff, q45]
    refine call_one (S := rDocOfSpec) rfl _ GaL.rfl ⟨key, v, by omega, by omega, rfl, fun d hd => ?_, fun hd => ?_⟩
    · rw [hd] at hq1 hq2
      simp only [Option.bind_some] at hq1 hq2
      simp only [dcCells] at hq1 ⊢
      have hh := Bool.eq_false_or_eq_true (headOk id d)
      rcases hh with c | c
      · rw [if_pos c] at hq1 hq2
        simp only [Option.bind_some] at hq1 hq2
        have hk3 := headOk_iff.1 c
        rcases hk3 with ⟨hid, hd1, hd2⟩
        have hn : ∃ n : Nat, d.lines = n ∧ 1 ≤ n ∧ n ≤ 6 := ⟨d.lines.toNat, by omega, by omega, by omega⟩
        rcases hn with ⟨n, hn, hn1, hn6⟩
        have htn : d.lines.toNat = n := by omega
        rw [htn] at hq1 hq2
        have c1 : (d.id != id) = false := by simp [hid]
        have c2 : decide (d.lines < 1) = false := decide_eq_false (by omega)
        have c3 : decide (d.lines > 6) = false := decide_eq_false (by omega)
        simp -dsimp only [Vm.G, List.lookup, Nat.reduceAdd, Nat.reduceBEq, Int.reduceBNe, Int.reduceBEq, Nat.reduceLeDiff, q45, c1, c2, c3]
        refine awp_loop (fun m s h' => ∃ (i : Nat) (l : List Dl), i + m = n ∧ h' = h ∧ linesAt f id i = some l ∧ s = mk [(0, .ptr R.iv 0), (1, .v (.int .i64 id)), (4, .box [.v (.int .i64 0), .v (.int .i64 0), .v (.int .i64 0), .v (.int .i64 0), .v (.int .i64 0)]), (10, .box [.v (.int .i64 d.id), .v (.int .i64 d.kind), .v (.int .i64 d.year), .v (.int .i64 d.frm), .v (.int .i64 d.lines)]), (12, .own true 62 4 ((l).map dlAv)), (13, .v (.int .i64 (i : Nat)))])
          n _ (le_mk _ ?_) ⟨0, [], by omega, rfl, rfl, rfl⟩ ?_
        · simp only [List.forall_mem_cons, List.not_mem_nil, false_imp_iff, implies_true, and_true]
          try simp -dsimp only [Vm.G, List.lookup, Nat.reduceAdd, Nat.reduceBEq, Int.reduceBNe, Int.reduceBEq, Nat.reduceLeDiff, q45]
          repeat' first | exact Fg.refl _ | exact Fg.nil _ _ _ (by decide) | refine And.intro ?_ ?_
        · rintro m s h' ⟨i, l, hi, rfl, hli, rfl⟩
          simp -dsimp only [Vm.G, List.lookup, Nat.reduceAdd, Nat.reduceBEq, Int.reduceBNe, Int.reduceBEq, Nat.reduceLeDiff, q45]
          refine cond_intro (fun hcc => ?_) (fun hcc => ?_)
          · have hlt : i < n := by have := of_decide_eq_true hcc; omega
            have hw : IntKind.i64.wrap ((i : Int) + 1) = ((i + 1 : Nat) : Int) := by rw [wrap_i64 (by omega) (by omega)]; simp
            have hll := linesAt_length hli
            have hsuc : linesAt f id (i + 1) = (lineAt f id i).map fun x => l ++ [x] := by
              show (linesAt f id i).bind _ = _
              rw [hli]; rfl
            simp -dsimp only [Vm.G, List.lookup, Nat.reduceAdd, Nat.reduceBEq, Int.reduceBNe, Int.reduceBEq, Nat.reduceLeDiff, q45]
            refine call_one (S := rlineSpec) rfl _ GaL.rfl ⟨R, f, id, (i : Nat), rfl, hR, hfn, fun x hx => ?_, fun hx => ?_⟩
            · rw [hx] at hsuc
              have hsuc : linesAt f id (i + 1) = some (l ++ [x]) := hsuc
              simp only [dlCells]
              simp -dsimp only [Vm.G, List.lookup, Nat.reduceAdd, Nat.reduceBEq, Int.reduceBNe, Int.reduceBEq, Nat.reduceLeDiff, q45]
              refine bs_intro zr62 (by decide) (by decide) rfl rfl (by simp [solid, AV.cells]) ?_
              simp -dsimp only [Vm.G, List.lookup, Nat.reduceAdd, Nat.reduceBEq, Int.reduceBNe, Int.reduceBEq, Nat.reduceLeDiff, q45]
              refine app_sl Tryz.underlying55 (by simp [AV.cells]) (by simp only [List.length_map, List.length_cons, List.length_nil]; omega) ?_
              simp -dsimp only [Vm.G, List.lookup, Nat.reduceAdd, Nat.reduceBEq, Int.reduceBNe, Int.reduceBEq, Nat.reduceLeDiff, q45]
              refine kept_intro ⟨n - (i + 1), by omega, _, le_mk [(0, .ptr R.iv 0), (1, .v (.int .i64 id)), (4, .box [.v (.int .i64 0), .v (.int .i64 0), .v (.int .i64 0), .v (.int .i64 0), .v (.int .i64 0)]), (10, .box [.v (.int .i64 d.id), .v (.int .i64 d.kind), .v (.int .i64 d.year), .v (.int .i64 d.frm), .v (.int .i64 d.lines)]), (12, .own true 62 4 ((l ++ [x]).map dlAv)), (13, .v (.int .i64 (i + 1 : Nat)))] ?_, i + 1, l ++ [x], by omega, rfl, hsuc, rfl⟩
              simp only [List.forall_mem_cons, List.not_mem_nil, false_imp_iff, implies_true, and_true, hw, dlAv, dlCells, List.map_append, List.map_cons, List.map_nil]
              try simp -dsimp only [Vm.G, List.lookup, Nat.reduceAdd, Nat.reduceBEq, Int.reduceBNe, Int.reduceBEq, Nat.reduceLeDiff, q45, hw, dlAv, dlCells, List.map_append, List.map_cons, List.map_nil]
              repeat' first | exact Fg.refl _ | exact Fg.nil _ _ _ (by decide) | refine And.intro ?_ ?_
            · rw [hx] at hsuc
              rw [linesAt_none (m := n) (by omega) hsuc] at hq2
              simp only [dlCells]
              simp -dsimp only [Vm.G, List.lookup, Nat.reduceAdd, Nat.reduceBEq, Int.reduceBNe, Int.reduceBEq, Nat.reduceLeDiff, q45]
              exact hq2 rfl
          · have hge : ¬ i < n := by have := of_decide_eq_false hcc; omega
            obtain rfl : i = n := by omega
            rw [hli] at hq1
            have hll := linesAt_length hli
            have hq := hq1 d l rfl (by omega) (by omega)
            clear hq1 hq2
            simp -dsimp only [Vm.G, List.lookup, Nat.reduceAdd, Nat.reduceBEq, Int.reduceBNe, Int.reduceBEq, Nat.reduceLeDiff, q45]
            exact hq
      · rw [if_neg (by rw [c]; decide)] at hq2
        have hq2 := hq2 rfl
        have h1 := Bool.eq_false_or_eq_true (d.id != id)
        rcases h1 with c1 | c1
        · simp -dsimp only [Vm.G, List.lookup, Nat.reduceAdd, Nat.reduceBEq, Int.reduceBNe, Int.reduceBEq, Nat.reduceLeDiff, q45, c1]
          exact hq2
        · have h2 := Bool.eq_false_or_eq_true (decide (d.lines < 1))
          rcases h2 with c2 | c2
          · simp -dsimp only [Vm.G, List.lookup, Nat.reduceAdd, Nat.reduceBEq, Int.reduceBNe, Int.reduceBEq, Nat.reduceLeDiff, q45, c1, c2]
            exact hq2
          · have h3 := Bool.eq_false_or_eq_true (decide (d.lines > 6))
            rcases h3 with c3 | c3
            · simp -dsimp only [Vm.G, List.lookup, Nat.reduceAdd, Nat.reduceBEq, Int.reduceBNe, Int.reduceBEq, Nat.reduceLeDiff, q45, c1, c2, c3]
              exact hq2
            · exfalso
              have d1 : d.id = id := by simpa using c1
              have d2 := of_decide_eq_false c2
              have d3 := of_decide_eq_false c3
              rw [headOk_iff.2 ⟨d1, by omega, by omega⟩] at c
              cases c
    · rw [hd] at hq2
      simp only [dcCells, Dc.zero]
      simp -dsimp only [Vm.G, List.lookup, Nat.reduceAdd, Nat.reduceBEq, Int.reduceBNe, Int.reduceBEq, Nat.reduceLeDiff, q45]
      exact hq2 rfl
  · rw [hf] at hq2
    simp -dsimp only [Vm.G, List.lookup, Nat.reduceAdd, Nat.reduceBEq, Int.reduceBNe, Int.reduceBEq, Nat.reduceLeDiff, q45]
    refine call_one (S := rDocOfSpec) rfl _ GaL.rfl ⟨key, [], by omega, by simp, rfl, fun d hd => ?_, fun hd => ?_⟩
    · rw [docOf_nil] at hd; cases hd
    · simp only [dcCells, Dc.zero]
      simp -dsimp only [Vm.G, List.lookup, Nat.reduceAdd, Nat.reduceBEq, Int.reduceBNe, Int.reduceBEq, Nat.reduceLeDiff, q45]
      exact hq2 rfl
def rDocsSetSpec : Vm.Spec := fun args h Q => ∃ (R : RId) (f : Fun) (id i : Int) (x : Dl), I64 id ∧ I64 i ∧ x.ok ∧ args = [.ptr R.iv 0, .v (.int .i64 id), .v (.int .i64 i), dlAv x] ∧ isRef h R f ∧ f.n ≤ 536870912 ∧
  ∀ h', isRef h' R (docsSet f id i x).1 → Same h h' (rFoot R) → Q (.v (.int .i64 (docsSet f id i x).2)) h'
set_option maxRecDepth 20000 in
set_option maxHeartbeats 1000000 in
theorem does_rDocsSet : Does Tryz.prog 44 rDocsSetSpec := by
  refine does_of_awp (good_cons does_rDocsGet (good_cons does_rDl (good_cons does_rSet good_nil))) Tryz.func44 rfl (by decide +kernel) (by decide +kernel) ?_
  rintro args h Q ⟨R, f, id, i, x, hid, hii, hx, rfl, hR, hfn, hq⟩
  refine ⟨by simp [Tryz.f44], ?_⟩
  rw [awpFunc_some (by rfl)]
  unfold docsSet at hq
  simp only [dlAv, dlCells]
  simp -dsimp only [Vm.G, List.lookup, Nat.reduceAdd, Nat.reduceBEq, Int.reduceBNe, Int.reduceBEq, Nat.reduceLeDiff, q44]
  refine call_one (S := rDocsGetSpec) rfl _ GaL.rfl ⟨R, f, id, rfl, hR, hfn, fun d l hd hl6 hdl => ?_, fun hd => ?_⟩
  · rw [hd] at hq
    simp only [dcCells] at hq ⊢
    simp -dsimp only [Vm.G, List.lookup, Nat.reduceAdd, Nat.reduceBEq, Int.reduceBNe, Int.reduceBEq, Nat.reduceLeDiff, q44]
    have hd1 := Bool.eq_false_or_eq_true (decide (i < 0))
    rcases hd1 with c1 | c1
    · have d1 := of_decide_eq_true c1
      rw [if_neg (by omega)] at hq
      simp -dsimp only [Vm.G, List.lookup, Nat.reduceAdd, Nat.reduceBEq, Int.reduceBNe, Int.reduceBEq, Nat.reduceLeDiff, q44, c1]
      exact hq h hR (.refl _ _)
    · have d1 := of_decide_eq_false c1
      have hd2 := Bool.eq_false_or_eq_true (decide (i ≥ (l.length : Int)))
      rcases hd2 with c2 | c2
      · have d2 := of_decide_eq_true c2
        rw [if_neg (by omega)] at hq
        simp -dsimp only [Vm.G, List.lookup, Nat.reduceAdd, Nat.reduceBEq, Int.reduceBNe, Int.reduceBEq, Nat.reduceLeDiff, q44, c1, c2, List.length_map]
        exact hq h hR (.refl _ _)
      · have d2 := of_decide_eq_false c2
        rw [if_pos (by omega)] at hq
        simp -dsimp only [Vm.G, List.lookup, Nat.reduceAdd, Nat.reduceBEq, Int.reduceBNe, Int.reduceBEq, Nat.reduceLeDiff, q44, c1, c2, List.length_map]
        refine call_one (S := rdlSpec) rfl _ GaL.rfl ⟨id, i, x, hid, hii, hx, rfl, ?_⟩
        simp -dsimp only [Vm.G, List.lookup, Nat.reduceAdd, Nat.reduceBEq, Int.reduceBNe, Int.reduceBEq, Nat.reduceLeDiff, q44]
        refine call_one (S := rSetSpec) rfl _ GaL.rfl ⟨R, f, (dlK id i, dlV x), rfl, hR, hfn, fun h2 g1 g2 => ?_⟩
        rw [if_pos (right_dl id i x)] at g1
        simp -dsimp only [Vm.G, List.lookup, Nat.reduceAdd, Nat.reduceBEq, Int.reduceBNe, Int.reduceBEq, Nat.reduceLeDiff, q44]
        exact hq h2 g1 g2
  · rw [hd] at hq
    simp only [dcCells, Dc.zero] at hq ⊢
    simp -dsimp only [Vm.G, List.lookup, Nat.reduceAdd, Nat.reduceBEq, Int.reduceBNe, Int.reduceBEq, Nat.reduceLeDiff, q44]
    exact hq h hR (.refl _ _)
def rDocsAllSpec : Vm.Spec := fun args h Q => ∃ (R : RId) (f : Fun) (year kind : Int), args = [.ptr R.iv 0, .v (.int .i64 year), .v (.int .i64 kind)] ∧ isRef h R f ∧ f.n ≤ 536870912 ∧
  ∀ l, ScanIs f [68] l → l.length ≤ f.n → Q (.own true 3 1 ((allD year kind l).map encI)) h
set_option maxRecDepth 20000 in
set_option maxHeartbeats 1000000 in
theorem does_rDocsAll : Does Tryz.prog 53 rDocsAllSpec := by
  refine does_of_awp (good_cons does_rScan (good_cons does_rDocOf good_nil)) Tryz.func53 rfl (by decide +kernel) (by decide +kernel) ?_
  rintro args h Q ⟨R, f, year, kind, rfl, hR, hn, hq⟩
  refine ⟨by simp [Tryz.f53], ?_⟩
  rw [awpFunc_some (by rfl)]
  simp -dsimp only [Vm.G, List.lookup, Nat.reduceAdd, Nat.reduceBEq, Int.reduceBNe, Int.reduceBEq, Nat.reduceLeDiff, q53]
  refine bs_intro zr5 (by decide) (by decide) rfl rfl (by simp [solid, AV.cells]) ?_
  simp -dsimp only [Vm.G, List.lookup, Nat.reduceAdd, Nat.reduceBEq, Int.reduceBNe, Int.reduceBEq, Nat.reduceLeDiff, q53]
  refine call_one (S := rScanSpec) rfl _ GaL.rfl ⟨R, f, [68], rfl, by simp, hR, hn, fun l hsc hln => ?_⟩
  simp -dsimp only [Vm.G, List.lookup, Nat.reduceAdd, Nat.reduceBEq, Int.reduceBNe, Int.reduceBEq, Nat.reduceLeDiff, q53]
  refine awp_loop (fun m s h' => ∃ i : Nat, i + m = l.length ∧ h' = h ∧ s = mk [(1, .v (.int .i64 year)), (2, .v (.int .i64 kind)), (7, .own true 3 1 ((allD year kind (l.take (i))).map encI)), (8, .own true 155 2 (l.map kvAv)), (9, .v (.int .i64 (i : Nat)))])
    l.length _ (le_mk _ ?_) ⟨0, by omega, rfl, rfl⟩ ?_
  · simp only [List.forall_mem_cons, List.not_mem_nil, false_imp_iff, implies_true, and_true]
    try simp -dsimp only [Vm.G, List.lookup, Nat.reduceAdd, Nat.reduceBEq, Int.reduceBNe, Int.reduceBEq, Nat.reduceLeDiff, q53]
    repeat' first | exact Fg.refl _ | exact Fg.nil _ _ _ (by decide) | refine And.intro ?_ ?_
  · rintro m s h' ⟨i, hi, rfl, rfl⟩
    simp -dsimp only [Vm.G, List.lookup, Nat.reduceAdd, Nat.reduceBEq, Int.reduceBNe, Int.reduceBEq, Nat.reduceLeDiff, q53, List.length_map]
    refine cond_intro (fun hcc => ?_) (fun hcc => ?_)
    · have hlt : i < l.length := by have := of_decide_eq_true hcc; omega
      have hw : IntKind.i64.wrap ((i : Int) + 1) = ((i + 1 : Nat) : Int) := by rw [wrap_i64 (by omega) (by omega)]; simp
      have hget : (l.map kvAv)[i]? = some (kvAv l[i]) := by simp [hlt]
      have est := filterMap_step (ofYK year kind) l i hlt
      have hal : (allD year kind (l.take i)).length ≤ i := filterMap_le (ofYK year kind) l i
      have hin := ((hsc.2 l[i].1 l[i].2).1 (List.getElem_mem hlt)).1
      have hkl := hR.len hin
      clear hin
      generalize l[i] = p at hget est hkl
      obtain ⟨k, v⟩ := p
      simp only at hkl
      have e0 : ofYK year kind (k, v) = (docOf k v).bind fun d => if d.year = year ∧ d.kind = kind then some d.id else none := rfl
      rw [e0] at est
      clear e0
      simp -dsimp only [Vm.G, List.lookup, Nat.reduceAdd, Nat.reduceBEq, Int.reduceBNe, Int.reduceBEq, Nat.reduceLeDiff, q53]
      refine idxO_intro (by omega) (by simp; omega) ?_
      simp -dsimp only [Vm.G, List.lookup, Nat.reduceAdd, Nat.reduceBEq, Int.reduceBNe, Int.reduceBEq, Nat.reduceLeDiff, q53, Int.toNat_natCast]
      refine eltA_intro hget ?_
      simp only [kvAv]
      simp -dsimp only [Vm.G, List.lookup, Nat.reduceAdd, Nat.reduceBEq, Int.reduceBNe, Int.reduceBEq, Nat.reduceLeDiff, q53, AV.cells, List.drop_zero]
      refine call_one (S := rDocOfSpec) rfl _ GaL.rfl ⟨k, v, by omega, by omega, rfl, fun d hd => ?_, fun hd => ?_⟩
      · rw [hd, Option.bind_some] at est
        simp only [dcCells]
        simp -dsimp only [Vm.G, List.lookup, Nat.reduceAdd, Nat.reduceBEq, Int.reduceBNe, Int.reduceBEq, Nat.reduceLeDiff, q53]
        have hd1 := Bool.eq_false_or_eq_true (d.year == year)
        rcases hd1 with c1 | c1
        · have d1 : d.year = year := by simpa using c1
          have hd2 := Bool.eq_false_or_eq_true (d.kind == kind)
          rcases hd2 with c2 | c2
          · have d2 : d.kind = kind := by simpa using c2
            rw [if_pos ⟨d1, d2⟩] at est
            simp -dsimp only [Vm.G, List.lookup, Nat.reduceAdd, Nat.reduceBEq, Int.reduceBNe, Int.reduceBEq, Nat.reduceLeDiff, q53, c1, c2]
            refine bs_intro zr3 (by decide) (by decide) rfl rfl (by simp [solid, AV.cells]) ?_
            simp -dsimp only [Vm.G, List.lookup, Nat.reduceAdd, Nat.reduceBEq, Int.reduceBNe, Int.reduceBEq, Nat.reduceLeDiff, q53]
            refine app_sl Tryz.underlying28 (by simp [AV.cells]) (by simp only [List.length_map, List.length_cons, List.length_nil]; omega) ?_
            simp -dsimp only [Vm.G, List.lookup, Nat.reduceAdd, Nat.reduceBEq, Int.reduceBNe, Int.reduceBEq, Nat.reduceLeDiff, q53]
            refine kept_intro ⟨l.length - (i + 1), by omega, _, le_mk [(1, .v (.int .i64 year)), (2, .v (.int .i64 kind)), (7, .own true 3 1 ((allD year kind (l.take (i + 1))).map encI)), (8, .own true 155 2 (l.map kvAv)), (9, .v (.int .i64 (i + 1 : Nat)))] ?_, i + 1, by omega, rfl, rfl⟩
            simp only [List.forall_mem_cons, List.not_mem_nil, false_imp_iff, implies_true, and_true, hw, est, Option.toList, List.append_nil, List.map_append, List.map_cons, List.map_nil, encI]
            try simp -dsimp only [Vm.G, List.lookup, Nat.reduceAdd, Nat.reduceBEq, Int.reduceBNe, Int.reduceBEq, Nat.reduceLeDiff, q53, hw, est, Option.toList, List.append_nil, List.map_append, List.map_cons, List.map_nil, encI]
            repeat' first | exact Fg.refl _ | exact Fg.nil _ _ _ (by decide) | refine And.intro ?_ ?_
          · have d2 : ¬ d.kind = kind := by simpa using c2
            rw [if_neg (fun hc => d2 hc.2)] at est
            simp -dsimp only [Vm.G, List.lookup, Nat.reduceAdd, Nat.reduceBEq, Int.reduceBNe, Int.reduceBEq, Nat.reduceLeDiff, q53, c1, c2]
            refine kept_intro ⟨l.length - (i + 1), by omega, _, le_mk [(1, .v (.int .i64 year)), (2, .v (.int .i64 kind)), (7, .own true 3 1 ((allD year kind (l.take (i + 1))).map encI)), (8, .own true 155 2 (l.map kvAv)), (9, .v (.int .i64 (i + 1 : Nat)))] ?_, i + 1, by omega, rfl, rfl⟩
            simp only [List.forall_mem_cons, List.not_mem_nil, false_imp_iff, implies_true, and_true, hw, est, Option.toList, List.append_nil, List.map_append, List.map_cons, List.map_nil, encI]
            try simp -dsimp only [Vm.G, List.lookup, Nat.reduceAdd, Nat.reduceBEq, Int.reduceBNe, Int.reduceBEq, Nat.reduceLeDiff, q53, hw, est, Option.toList, List.append_nil, List.map_append, List.map_cons, List.map_nil, encI]
            repeat' first | exact Fg.refl _ | exact Fg.nil _ _ _ (by decide) | refine And.intro ?_ ?_
        · have d1 : ¬ d.year = year := by simpa using c1
          rw [if_neg (fun hc => d1 hc.1)] at est
          simp -dsimp only [Vm.G, List.lookup, Nat.reduceAdd, Nat.reduceBEq, Int.reduceBNe, Int.reduceBEq, Nat.reduceLeDiff, q53, c1]
          refine kept_intro ⟨l.length - (i + 1), by omega, _, le_mk [(1, .v (.int .i64 year)), (2, .v (.int .i64 kind)), (7, .own true 3 1 ((allD year kind (l.take (i + 1))).map encI)), (8, .own true 155 2 (l.map kvAv)), (9, .v (.int .i64 (i + 1 : Nat)))] ?_, i + 1, by omega, rfl, rfl⟩
          simp only [List.forall_mem_cons, List.not_mem_nil, false_imp_iff, implies_true, and_true, hw, est, Option.toList, List.append_nil, List.map_append, List.map_cons, List.map_nil, encI]
          try simp -dsimp only [Vm.G, List.lookup, Nat.reduceAdd, Nat.reduceBEq, Int.reduceBNe, Int.reduceBEq, Nat.reduceLeDiff, q53, hw, est, Option.toList, List.append_nil, List.map_append, List.map_cons, List.map_nil, encI]
          repeat' first | exact Fg.refl _ | exact Fg.nil _ _ _ (by decide) | refine And.intro ?_ ?_
      · rw [hd, Option.bind_none] at est
        simp only [dcCells, Dc.zero]
        simp -dsimp only [Vm.G, List.lookup, Nat.reduceAdd, Nat.reduceBEq, Int.reduceBNe, Int.reduceBEq, Nat.reduceLeDiff, q53]
        refine kept_intro ⟨l.length - (i + 1), by omega, _, le_mk [(1, .v (.int .i64 year)), (2, .v (.int .i64 kind)), (7, .own true 3 1 ((allD year kind (l.take (i + 1))).map encI)), (8, .own true 155 2 (l.map kvAv)), (9, .v (.int .i64 (i + 1 : Nat)))] ?_, i + 1, by omega, rfl, rfl⟩
        simp only [List.forall_mem_cons, List.not_mem_nil, false_imp_iff, implies_true, and_true, hw, est, Option.toList, List.append_nil, List.map_append, List.map_cons, List.map_nil, encI]
        try simp -dsimp only [Vm.G, List.lookup, Nat.reduceAdd, Nat.reduceBEq, Int.reduceBNe, Int.reduceBEq, Nat.reduceLeDiff, q53, hw, est, Option.toList, List.append_nil, List.map_append, List.map_cons, List.map_nil, encI]
        repeat' first | exact Fg.refl _ | exact Fg.nil _ _ _ (by decide) | refine And.intro ?_ ?_
    · have hge : ¬ i < l.length := by have := of_decide_eq_false hcc; omega
      simp -dsimp only [Vm.G, List.lookup, Nat.reduceAdd, Nat.reduceBEq, Int.reduceBNe, Int.reduceBEq, Nat.reduceLeDiff, q53]
      rw [List.take_of_length_le (by omega)]
      exact hq l hsc hln
theorem openD_ref (x : Dl) : w64 (w64 (x.orig - x.liq) - x.can) = openD x := by
  unfold openD
  have h1 : w64 (w64 (x.orig - x.liq) - x.can) = w64 (w64 (x.orig - x.liq) + -x.can) := rfl
  have h2 : ∀ a b : Int, w64 (w64 a + b) = w64 (a + b) := fun a b => by
    show IntKind.i64.wrap _ = IntKind.i64.wrap _
    rw [wrap_i64_toInt, wrap_i64_toInt]
    congr 1
    show BitVec.ofInt 64 (IntKind.i64.wrap a + b) = _
    rw [wrap_i64_toInt, BitVec.ofInt_add, BitVec.ofInt_toInt, ← BitVec.ofInt_add]
  have h3 : w64 (x.orig - w64 (x.liq + x.can)) = w64 (x.orig - (x.liq + x.can)) := by
    show IntKind.i64.wrap _ = IntKind.i64.wrap _
    rw [wrap_i64_toInt, wrap_i64_toInt]
    congr 1
    show BitVec.ofInt 64 (x.orig - IntKind.i64.wrap (x.liq + x.can)) = _
    rw [wrap_i64_toInt, Int.sub_eq_add_neg, Int.sub_eq_add_neg, BitVec.ofInt_add (x := x.orig), BitVec.ofInt_add (x := x.orig), BitVec.ofInt_neg, BitVec.ofInt_neg, BitVec.ofInt_toInt]
  rw [h1, h2, h3]
  congr 1; omega
theorem does_rDocsOpen : Does Tryz.prog 49 openDSpec := by
  refine does_of_awp good_nil Tryz.func49 rfl (by decide +kernel) (by decide +kernel) ?_
  rintro args h Q ⟨x, rfl, hq⟩
  refine ⟨by simp [Tryz.f49], ?_⟩
  rw [awpFunc_some (by rfl)]
  rw [← openD_ref] at hq
  simp only [dlAv, dlCells]
  simp -dsimp only [Vm.G, List.lookup, Nat.reduceAdd, Nat.reduceBEq, Int.reduceBNe, Int.reduceBEq, Nat.reduceLeDiff, q49]
  exact hq
theorem does_rIn : Does Tryz.prog 124 (predSpec inD) := by
  refine does_of_awp good_nil Tryz.func124 rfl (by decide +kernel) (by decide +kernel) ?_
  rintro args h Q ⟨n, rfl, hq⟩
  refine ⟨by simp [Tryz.f124], ?_⟩
  rw [awpFunc_some (by rfl)]
  unfold inD at hq
  simp -dsimp only [Vm.G, List.lookup, Nat.reduceAdd, Nat.reduceBEq, Int.reduceBNe, Int.reduceBEq, Nat.reduceLeDiff, q124]
  cases c1 : decide (n ≥ 0)
  · rw [c1] at hq
    simp -dsimp only [Vm.G, List.lookup, Nat.reduceAdd, Nat.reduceBEq, Int.reduceBNe, Int.reduceBEq, Nat.reduceLeDiff, q124]
    exact hq
  · rw [c1] at hq
    simp -dsimp only [Vm.G, List.lookup, Nat.reduceAdd, Nat.reduceBEq, Int.reduceBNe, Int.reduceBEq, Nat.reduceLeDiff, q124]
    exact hq
set_option maxHeartbeats 1000000 in
theorem does_rDocsRight : Does Tryz.prog 51 rightDSpec := by
  refine does_of_awp (good_cons does_rDocsOpen (good_cons does_rIn good_nil)) Tryz.func51 rfl (by decide +kernel) (by decide +kernel) ?_
  rintro args h Q ⟨x, rfl, hq⟩
  refine ⟨by simp [Tryz.f51], ?_⟩
  rw [awpFunc_some (by rfl)]
  have hq' : ∀ b, rightD x = b → Q (.v (.bool b)) h := fun b hb => hb ▸ hq
  unfold rightD at hq'
  clear hq
  simp only [dlAv, dlCells]
  simp -dsimp only [Vm.G, List.lookup, Nat.reduceAdd, Nat.reduceBEq, Int.reduceBNe, Int.reduceBEq, Nat.reduceLeDiff, q51]
  refine call_one (S := predSpec inD) rfl _ GaL.rfl ⟨x.orig, rfl, ?_⟩
  cases c1 : inD x.orig
  · simp -dsimp only [Vm.G, List.lookup, Nat.reduceAdd, Nat.reduceBEq, Int.reduceBNe, Int.reduceBEq, Nat.reduceLeDiff, q51]
    exact hq' _ (by rw [c1]; rfl)
  · simp -dsimp only [Vm.G, List.lookup, Nat.reduceAdd, Nat.reduceBEq, Int.reduceBNe, Int.reduceBEq, Nat.reduceLeDiff, q51]
    refine call_one (S := predSpec inD) rfl _ GaL.rfl ⟨x.liq, rfl, ?_⟩
    cases c2 : inD x.liq
    · simp -dsimp only [Vm.G, List.lookup, Nat.reduceAdd, Nat.reduceBEq, Int.reduceBNe, Int.reduceBEq, Nat.reduceLeDiff, q51]
      exact hq' _ (by rw [c1, c2]; rfl)
    · simp -dsimp only [Vm.G, List.lookup, Nat.reduceAdd, Nat.reduceBEq, Int.reduceBNe, Int.reduceBEq, Nat.reduceLeDiff, q51]
      refine call_one (S := predSpec inD) rfl _ GaL.rfl ⟨x.can, rfl, ?_⟩
      cases c3 : inD x.can
      · simp -dsimp only [Vm.G, List.lookup, Nat.reduceAdd, Nat.reduceBEq, Int.reduceBNe, Int.reduceBEq, Nat.reduceLeDiff, q51]
        exact hq' _ (by rw [c1, c2, c3]; rfl)
      · simp -dsimp only [Vm.G, List.lookup, Nat.reduceAdd, Nat.reduceBEq, Int.reduceBNe, Int.reduceBEq, Nat.reduceLeDiff, q51]
        refine call_one (S := openDSpec) rfl _ GaL.rfl ⟨x, rfl, ?_⟩
        simp -dsimp only [Vm.G, List.lookup, Nat.reduceAdd, Nat.reduceBEq, Int.reduceBNe, Int.reduceBEq, Nat.reduceLeDiff, q51]
        refine call_one (S := predSpec inD) rfl _ GaL.rfl ⟨openD x, rfl, ?_⟩
        simp -dsimp only [Vm.G, List.lookup, Nat.reduceAdd, Nat.reduceBEq, Int.reduceBNe, Int.reduceBEq, Nat.reduceLeDiff, q51]
        exact hq' _ (by rw [c1, c2, c3]; rfl)
def rDocsPutSpec : Vm.Spec := fun args h Q => ∃ (R : RId) (f : Fun) (d : Dc) (l : List Dl), d.ok ∧ (∀ x ∈ l, x.ok) ∧ args = [.ptr R.iv 0, .agg (dcCells d), .sl 4 (l.map dlAv)] ∧ isRef h R f ∧ f.n ≤ 536870900 ∧
  ∀ h', isRef h' R (docsPut f d l).1 → Same h h' (rFoot R) → Q (.tup [.v (.int .i64 (docsPut f d l).2.1), .v (.int .i64 (docsPut f d l).2.2)]) h'
set_option maxRecDepth 20000 in
set_option maxHeartbeats 2000000 in
theorem does_rDocsPut : Does Tryz.prog 42 rDocsPutSpec := by
  refine does_of_awp (good_cons does_rNext (good_cons does_rDl (good_cons does_rSet (good_cons does_rDc good_nil)))) Tryz.func42 rfl (by decide +kernel) (by decide +kernel) ?_
  rintro args h Q ⟨R, f, d, l, hd, hx, rfl, hR, hfn, hq⟩
  refine ⟨by simp [Tryz.f42], ?_⟩
  rw [awpFunc_some (by rfl)]
  unfold docsPut at hq
  simp only [dcCells]
  simp -dsimp only [Vm.G, List.lookup, Nat.reduceAdd, Nat.reduceBEq, Int.reduceBNe, Int.reduceBEq, Nat.reduceLeDiff, q42]
  have hd0 := Bool.eq_false_or_eq_true (decide ((l.length : Int) < 1))
  rcases hd0 with c0 | c0
  · have d0 := of_decide_eq_true c0
    simp only [if_pos (show l.length = 0 ∨ 6 < l.length from .inl (by omega))] at hq
    simp -dsimp only [Vm.G, List.lookup, Nat.reduceAdd, Nat.reduceBEq, Int.reduceBNe, Int.reduceBEq, Nat.reduceLeDiff, q42, c0]
    exact hq h hR (.refl _ _)
  · have d0 := of_decide_eq_false c0
    have hd6 := Bool.eq_false_or_eq_true (decide ((l.length : Int) > 6))
    rcases hd6 with c6 | c6
    · have d6 := of_decide_eq_true c6
      simp only [if_pos (show l.length = 0 ∨ 6 < l.length from .inr (by omega))] at hq
      simp -dsimp only [Vm.G, List.lookup, Nat.reduceAdd, Nat.reduceBEq, Int.reduceBNe, Int.reduceBEq, Nat.reduceLeDiff, q42, c0, c6]
      exact hq h hR (.refl _ _)
    · have d6 := of_decide_eq_false c6
      have hr := readOf_range f (seqKey 2)
      simp only [if_neg (show ¬ (l.length = 0 ∨ 6 < l.length) by omega)] at hq
      simp -dsimp only [Vm.G, List.lookup, Nat.reduceAdd, Nat.reduceBEq, Int.reduceBNe, Int.reduceBEq, Nat.reduceLeDiff, q42, c0, c6]
      refine call_one (S := rNextSpec) rfl _ GaL.rfl ⟨R, f, 2, rfl, hR, by omega, fun hr => ?_, fun hn h1 g1 g2 => ?_⟩
      · simp only [if_pos hr] at hq
        simp -dsimp only [Vm.G, List.lookup, Nat.reduceAdd, Nat.reduceBEq, Int.reduceBNe, Int.reduceBEq, Nat.reduceLeDiff, q42]
        exact hq h hR (.refl _ _)
      · simp only [if_neg hn] at hq
        unfold docsF at hq
        have hidr : I64 (readOf f (seqKey 2) + 1) := by unfold I64 at hr ⊢; omega
        have hf1 : (upd f (seqKey 2) (some (be 8 (readOf f (seqKey 2) + 1)))).n = f.n + 1 := rfl
        generalize readOf f (seqKey 2) + 1 = id at hq g1 hidr hf1 ⊢
        generalize upd f (seqKey 2) (some (be 8 id)) = f1 at hq g1 hf1
        simp -dsimp only [Vm.G, List.lookup, Nat.reduceAdd, Nat.reduceBEq, Int.reduceBNe, Int.reduceBEq, Nat.reduceLeDiff, q42]
        refine awp_loop (fun m s h' => ∃ (i : Nat) (g : Fun), i + m = l.length ∧ isRef h' R g ∧ g.n ≤ f.n + 1 + i ∧ Same h h' (rFoot R) ∧ putLines id i (l.drop i) g = putLines id 0 l f1 ∧ s = mk [(0, .ptr R.iv 0), (2, .sl 4 (l.map dlAv)), (4, .box [.v (.int .i64 d.id), .v (.int .i64 d.kind), .v (.int .i64 d.year), .v (.int .i64 d.frm), .v (.int .i64 d.lines)]), (8, .v (.int .i64 id)), (10, .v (.int .i64 (i : Nat)))])
          l.length _ (le_mk _ ?_) ⟨0, f1, by omega, g1, by omega, g2, rfl, rfl⟩ ?_
        · simp only [List.forall_mem_cons, List.not_mem_nil, false_imp_iff, implies_true, and_true]
          try simp -dsimp only [Vm.G, List.lookup, Nat.reduceAdd, Nat.reduceBEq, Int.reduceBNe, Int.reduceBEq, Nat.reduceLeDiff, q42]
          repeat' first | exact Fg.refl _ | exact Fg.nil _ _ _ (by decide) | refine And.intro ?_ ?_
        · clear g1 g2 hR
          rintro m s h' ⟨i, g, hi, hR, hgn, hsm, hp, rfl⟩
          simp -dsimp only [Vm.G, List.lookup, Nat.reduceAdd, Nat.reduceBEq, Int.reduceBNe, Int.reduceBEq, Nat.reduceLeDiff, q42]
          refine cond_intro (fun hcc => ?_) (fun hcc => ?_)
          · have hlt : i < l.length := by have := of_decide_eq_true hcc; omega
            have hw : IntKind.i64.wrap ((i : Int) + 1) = ((i + 1 : Nat) : Int) := by rw [wrap_i64 (by omega) (by omega)]; simp
            have hok := hx l[i] (List.getElem_mem hlt)
            rw [List.drop_eq_getElem_cons hlt] at hp
            simp -dsimp only [Vm.G, List.lookup, Nat.reduceAdd, Nat.reduceBEq, Int.reduceBNe, Int.reduceBEq, Nat.reduceLeDiff, q42]
            refine idx_map dlAv l i hlt ?_
            generalize l[i] = x at hok hp
            have hii : I64 (i : Int) := by unfold I64; omega
            have hun : (upd g (dlK id i) (some (dlV x))).n = g.n + 1 := rfl
            simp only [dlAv, dlCells]
            simp -dsimp only [Vm.G, List.lookup, Nat.reduceAdd, Nat.reduceBEq, Int.reduceBNe, Int.reduceBEq, Nat.reduceLeDiff, q42, AV.cells]
            refine call_one (S := rdlSpec) rfl _ GaL.rfl ⟨id, i, x, hidr, hii, hok, rfl, ?_⟩
            simp -dsimp only [Vm.G, List.lookup, Nat.reduceAdd, Nat.reduceBEq, Int.reduceBNe, Int.reduceBEq, Nat.reduceLeDiff, q42]
            refine call_one (S := rSetSpec) rfl _ GaL.rfl ⟨R, g, (dlK id i, dlV x), rfl, hR, by omega, fun h2 g1 g2 => ?_⟩
            rw [if_pos (right_dl id i x)] at g1
            simp -dsimp only [Vm.G, List.lookup, Nat.reduceAdd, Nat.reduceBEq, Int.reduceBNe, Int.reduceBEq, Nat.reduceLeDiff, q42]
            refine kept_intro ⟨l.length - (i + 1), by omega, _, le_mk [(0, .ptr R.iv 0), (2, .sl 4 (l.map dlAv)), (4, .box [.v (.int .i64 d.id), .v (.int .i64 d.kind), .v (.int .i64 d.year), .v (.int .i64 d.frm), .v (.int .i64 d.lines)]), (8, .v (.int .i64 id)), (10, .v (.int .i64 (i + 1 : Nat)))] ?_, i + 1, _, by omega, g1, by show (upd g (dlK id i) (some (dlV x))).n ≤ f.n + 1 + (i + 1); omega, hsm.trans g2, hp, rfl⟩
            simp only [List.forall_mem_cons, List.not_mem_nil, false_imp_iff, implies_true, and_true, hw]
            try simp -dsimp only [Vm.G, List.lookup, Nat.reduceAdd, Nat.reduceBEq, Int.reduceBNe, Int.reduceBEq, Nat.reduceLeDiff, q42, hw]
            repeat' first | exact Fg.refl _ | exact Fg.nil _ _ _ (by decide) | refine And.intro ?_ ?_
          · have hge : ¬ i < l.length := by have := of_decide_eq_false hcc; omega
            rw [List.drop_of_length_le (by omega)] at hp
            have hp : g = putLines id 0 l f1 := hp
            rw [← hp] at hq
            obtain ⟨o1, o2, o3, o4, o5⟩ := hd
            have hdok : ({ d with id := id, lines := (l.length : Int) } : Dc).ok := ⟨hidr, o2, o3, o4, by unfold I64; show -9223372036854775808 ≤ (l.length : Int) ∧ (l.length : Int) ≤ _; omega⟩
            simp -dsimp only [Vm.G, List.lookup, Nat.reduceAdd, Nat.reduceBEq, Int.reduceBNe, Int.reduceBEq, Nat.reduceLeDiff, q42]
            refine call_one (S := rdcSpec) rfl _ GaL.rfl ⟨{ d with id := id, lines := l.length }, hdok, rfl, ?_⟩
            simp -dsimp only [Vm.G, List.lookup, Nat.reduceAdd, Nat.reduceBEq, Int.reduceBNe, Int.reduceBEq, Nat.reduceLeDiff, q42]
            refine call_one (S := rSetSpec) rfl _ GaL.rfl ⟨R, g, (dcK id, dcV { d with id := id, lines := l.length }), rfl, hR, by omega, fun h2 g1 g2 => ?_⟩
            rw [if_pos (right_dc id _)] at g1
            simp -dsimp only [Vm.G, List.lookup, Nat.reduceAdd, Nat.reduceBEq, Int.reduceBNe, Int.reduceBEq, Nat.reduceLeDiff, q42]
            exact hq h2 g1 (hsm.trans g2)
end Go.Proofs.Lx
/- The law SeqnRises: walked. -/
set_option linter.unusedSimpArgs false
set_option linter.unusedVariables false
namespace Go.Proofs.Lx
open Go.Vm
attribute [local irreducible] awpArr awpBin awpMake awpAppend awpCvX awpStrOf awpBinX awpSlice awpBS awpStore awpAlloc awpCopy awpIndex awpDraw awpIdxX awpFa awpField awpLookup awpUpdate awpDelete awpClear awpRange awpNext awpEntry awpBuild
end Go.Proofs.Lx
/- The law SeqnGives. -/
set_option linter.unusedSimpArgs false
set_option linter.unusedVariables false
namespace Go.Proofs.Lx
open Go.Vm
attribute [local irreducible] awpArr awpBin awpMake awpAppend awpCvX awpStrOf awpBinX awpSlice awpBS awpStore awpAlloc awpCopy awpIndex awpDraw awpIdxX awpFa awpField awpLookup awpUpdate awpDelete awpClear awpRange awpNext awpEntry awpBuild awpClearS awpIdxL
def addKV (f : Fun) (p : KV) : Fun := if rightKV p.1 p.2 then upd f p.1 (some p.2) else f
theorem addKV_n (f : Fun) (p : KV) : (addKV f p).n ≤ f.n + 1 := by
  unfold addKV
  split
  · exact Nat.le_refl _
  · exact Nat.le_succ _
theorem isA_kv {y : AV} (h : IsA (.agg [.sl (.int .u8), .sl (.int .u8)]) y) : ∃ p : KV, (p.1.length ≤ 9223372036854775807 ∧ p.2.length ≤ 9223372036854775807) ∧ y = kvAv p := by
  simp only [IsA, IsAll] at h
  obtain ⟨ys, ⟨y1, r1, rfl, h1, y2, r2, rfl, h2, rfl⟩, rfl⟩ := h
  obtain ⟨a, ha, rfl⟩ := isA_bytes (by simpa only [IsA] using h1)
  obtain ⟨b, hb, rfl⟩ := isA_bytes (by simpa only [IsA] using h2)
  exact ⟨(a, b), ⟨Nat.le_trans ha (by decide), Nat.le_trans hb (by decide)⟩, rfl⟩
theorem few_true {l : List KV} {many : Int} (h : fewOf l many = true) : (l.length : Int) ≤ many := by
  unfold fewOf at h
  simp only [Bool.and_eq_true, decide_eq_true_eq] at h
  exact h.1
end Go.Proofs.Lx
/- The law YearsLive. -/
set_option linter.unusedSimpArgs false
set_option linter.unusedVariables false
namespace Go.Proofs.Lx
open Go.Vm
attribute [local irreducible] awpArr awpBin awpMake awpAppend awpCvX awpStrOf awpBinX awpSlice awpBS awpStore awpAlloc awpCopy awpIndex awpDraw awpIdxX awpFa awpField awpLookup awpUpdate awpDelete awpClear awpRange awpNext awpEntry awpBuild awpClearS awpIdxL awpTree appB awpIdxO eltA treeA
theorem both_rnew {h : Heap} {V : VId} (hV : isView h V noF) : Both (rNewH h) V (rNewId h) noF := by
  refine ⟨by unfold rNewH; exact hV.more _, isRef_new h, fun i hi hm => ?_⟩
  obtain ⟨chg, clk, mem, clk2, h1, h2, h3, -⟩ := hV
  have a1 := get_lt h1
  have a2 := get_lt h2
  have a3 := get_lt h3
  simp only [rNewId, List.mem_cons, List.not_mem_nil, or_false] at hi hm
  omega
def rNewASpec : Vm.Spec := fun args h Q => ∃ V : VId, args = [.sl 2 []] ∧ isView h V noF ∧ ∀ (R : RId) (h' : Heap), Both h' V R noF → Q (.ptr R.iv 0) h'
theorem does_rNewA : Does Tryz.prog 21 rNewASpec := does_rNew.imp (by
  rintro args h Q ⟨V, rfl, hV, hq⟩
  exact ⟨rfl, hq (rNewId h) (rNewH h) (both_rnew hV)⟩)
theorem bool_neq {a b : Bool} {KV : Value → Prop} : awpBin Tryz.prog .neq 4 (.v (.bool a)) (.v (.bool b)) KV = KV (.bool (!(a == b))) := by simp [awpBin, Tryz.underlying4]
end Go.Proofs.Lx
/- The law PreOpen. -/
set_option linter.unusedSimpArgs false
set_option linter.unusedVariables false
namespace Go.Proofs.Lx
open Go.Vm
attribute [local irreducible] awpArr awpBin awpMake awpAppend awpCvX awpStrOf awpBinX awpSlice awpBS awpStore awpAlloc awpCopy awpIndex awpDraw awpIdxX awpFa awpField awpLookup awpUpdate awpDelete awpClear awpRange awpNext awpEntry awpBuild awpClearS awpIdxL awpTree appB awpIdxO eltA treeA
abbrev InR (n : Int) : Prop := 0 ≤ n ∧ n ≤ 4294967295
theorem keyOf_tag {t t' : UInt8} {l l' : List Int} (h : t ≠ t') : keyOf t l ≠ keyOf t' l' := fun e => by
  unfold keyOf at e
  exact h (List.cons.inj e).1
end Go.Proofs.Lx
/- Plain laws for DocsBack. -/
set_option linter.unusedSimpArgs false
set_option linter.unusedVariables false
namespace Go.Proofs.Lx
open Go.Vm
attribute [local irreducible] awpArr awpBin awpMake awpAppend awpCvX awpStrOf awpBinX awpSlice awpBS awpStore awpAlloc awpCopy awpIndex awpDraw awpIdxX awpFa awpField awpLookup awpUpdate awpDelete awpClear awpRange awpNext awpEntry awpBuild awpClearS awpIdxL awpTree appB awpIdxO eltA treeA
theorem docOf_put {d : Dc} (hd : d.ok) (hr : InR d.id) : docOf (dcK d.id) (dcV d) = some d := by
  obtain ⟨o1, o2, o3, o4, o5⟩ := hd
  have hv : dcV d = packs 8 [d.kind, d.year, d.frm, d.lines] := rfl
  have hn : numsOf (packs 8 [d.kind, d.year, d.frm, d.lines]) 4 = [d.kind, d.year, d.frm, d.lines] := numsOf_packs [d.kind, d.year, d.frm, d.lines] fun x hx => by
    simp only [List.mem_cons, List.not_mem_nil, or_false] at hx
    rcases hx with rfl | rfl | rfl | rfl <;> assumption
  unfold docOf numsPair
  rw [dcK, splitOf_key 68 [d.id] (by simp)]
  have hk : ([d.id] : List Int).map clampK = [d.id] := by simp [clampK_id hr.1 hr.2]
  simp only [hk]
  rw [if_pos ⟨trivial, rfl, dcV_length d⟩, hv, hn]
  rfl
theorem lineOf_put {x : Dl} (hx : x.ok) {id i : Int} (h1 : InR id) (h2 : InR i) : lineOf (dlK id i) (dlV x) = some x := by
  obtain ⟨o1, o2, o3, o4⟩ := hx
  have hv : dlV x = packs 8 [x.node, x.orig, x.liq, x.can] := rfl
  have hn : numsOf (packs 8 [x.node, x.orig, x.liq, x.can]) 4 = [x.node, x.orig, x.liq, x.can] := numsOf_packs [x.node, x.orig, x.liq, x.can] fun y hy => by
    simp only [List.mem_cons, List.not_mem_nil, or_false] at hy
    rcases hy with rfl | rfl | rfl | rfl <;> assumption
  unfold lineOf numsPair
  rw [dlK, splitOf_key 76 [id, i] (by simp)]
  have hk : ([id, i] : List Int).map clampK = [id, i] := by simp [clampK_id h1.1 h1.2, clampK_id h2.1 h2.2]
  simp only [hk]
  rw [if_pos ⟨trivial, rfl, dlV_length x⟩, hv, hn]
  rfl
theorem dlK_inj {id a b : Int} (ha : InR a) (hb : InR b) (h : dlK id a = dlK id b) : a = b := by
  have := (key_inj (by simp) (by simp) h).2
  simp only [List.map_cons, List.map_nil, clampK_id ha.1 ha.2, clampK_id hb.1 hb.2] at this
  simpa using this
theorem putLines_other (id : Int) : ∀ (l : List Dl) (i : Nat) (f : Fun) (k : List UInt8), (∀ j, j < l.length → k ≠ dlK id ((i + j : Nat) : Int)) → putLines id i l f k = f k
  | [], _, _, _, _ => rfl
  | x :: r, i, f, k, h => by
    have h0 := h 0 (by simp)
    show putLines id (i + 1) r (upd f (dlK id i) (some (dlV x))) k = f k
    rw [putLines_other id r (i + 1) _ k fun j hj => by
      have := h (j + 1) (by simpa using hj)
      rwa [show i + (j + 1) = i + 1 + j by omega] at this]
    rw [upd_app, if_neg (by simpa using h0)]
theorem putLines_get (id : Int) : ∀ (l : List Dl) (i : Nat) (f : Fun) (j : Nat) (hj : j < l.length), i + l.length ≤ 100 → putLines id i l f (dlK id ((i + j : Nat) : Int)) = some (dlV l[j])
  | x :: r, i, f, 0, hj, hb => by
    show putLines id (i + 1) r (upd f (dlK id i) (some (dlV x))) (dlK id ((i + 0 : Nat) : Int)) = _
    simp only [List.length_cons] at hb
    rw [putLines_other id r (i + 1) _ _ fun j' hj' e => by
      have := dlK_inj ⟨by omega, by omega⟩ ⟨by omega, by omega⟩ e
      omega]
    rw [upd_app, if_pos (by rw [Nat.add_zero])]; rfl
  | x :: r, i, f, j + 1, hj, hb => by
    show putLines id (i + 1) r (upd f (dlK id i) (some (dlV x))) (dlK id ((i + (j + 1) : Nat) : Int)) = _
    simp only [List.length_cons] at hb hj
    have := putLines_get id r (i + 1) (upd f (dlK id i) (some (dlV x))) j (by omega) (by omega)
    rw [show i + (j + 1) = i + 1 + j by omega]
    exact this
theorem putLines_some (id : Int) : ∀ (l : List Dl) (i : Nat) (f : Fun) (k v : List UInt8), putLines id i l f k = some v → (∃ j : Int, k = dlK id j) ∨ f k = some v
  | [], _, _, _, _, h => .inr h
  | x :: r, i, f, k, v, h => by
    rcases putLines_some id r (i + 1) _ k v h with h' | h'
    · exact .inl h'
    · rw [upd_app] at h'
      split at h'
      · rename_i e; exact .inl ⟨_, e⟩
      · exact .inr h'
/-- The first document of a view. -/
def dc1 (d : Dc) (l : List Dl) : Dc := { d with id := 1, lines := l.length }
def dF (d : Dc) (l : List Dl) : Fun := docsF noF 1 d l
theorem docs_put {d : Dc} {l : List Dl} (h1 : 1 ≤ l.length) (h6 : l.length ≤ 6) : docsPut noF d l = (dF d l, 1, 0) := by
  have hr : readOf noF (seqKey 2) = 0 := rfl
  unfold docsPut
  rw [if_neg (by omega), hr, if_neg (by omega)]
  rfl
theorem dc1_ok {d : Dc} {l : List Dl} (hd : d.ok) (h6 : l.length ≤ 6) : (dc1 d l).ok := by
  obtain ⟨o1, o2, o3, o4, o5⟩ := hd
  exact ⟨by show I64 1; unfold I64; omega, o2, o3, o4, by show I64 (l.length : Int); unfold I64; omega⟩
theorem dF_doc (d : Dc) (l : List Dl) : dF d l (dcK 1) = some (dcV (dc1 d l)) := by
  unfold dF docsF
  rw [upd_app, if_pos rfl]; rfl
theorem dF_line {d : Dc} {l : List Dl} (h6 : l.length ≤ 6) (j : Nat) (hj : j < l.length) : dF d l (dlK 1 (j : Nat)) = some (dlV l[j]) := by
  unfold dF docsF
  rw [upd_app, if_neg (show ¬ dlK 1 (j : Nat) = dcK 1 from keyOf_tag (by decide))]
  have := putLines_get 1 l 0 (upd noF (seqKey 2) (some (be 8 1))) j hj (by omega)
  simpa using this
theorem dF_at {d : Dc} {l : List Dl} (hd : d.ok) (hl : ∀ x ∈ l, x.ok) (h1 : 1 ≤ l.length) (h6 : l.length ≤ 6) : docAt (dF d l) 1 = some (dc1 d l, l) := by
  have hh : docHead (dF d l) 1 = some (dc1 d l) := by
    unfold docHead
    rw [dF_doc, Option.bind_some]
    have := docOf_put (dc1_ok (l := l) hd h6) ⟨by show (0 : Int) ≤ 1; omega, by show (1 : Int) ≤ _; omega⟩
    have e : dcK (dc1 d l).id = dcK 1 := rfl
    rw [e] at this
    rw [this, Option.bind_some, if_pos]
    exact headOk_iff.2 ⟨rfl, by show 1 ≤ (l.length : Int); omega, by show (l.length : Int) ≤ 6; omega⟩
  have hln : ∀ n, n ≤ l.length → linesAt (dF d l) 1 n = some (l.take n) := fun n => by
    induction n with
    | zero => intro _; rfl
    | succ n ih =>
      intro hn
      show (linesAt (dF d l) 1 n).bind _ = _
      rw [ih (by omega), Option.bind_some]
      have : lineAt (dF d l) 1 (n : Nat) = some l[n] := by
        unfold lineAt
        rw [dF_line h6 n (by omega), Option.bind_some]
        exact lineOf_put (hl _ (List.getElem_mem _)) ⟨by omega, by omega⟩ ⟨by omega, by omega⟩
      rw [this, List.take_succ_eq_append_getElem (by omega)]; rfl
  unfold docAt
  rw [hh, Option.bind_some]
  have e : (dc1 d l).lines.toNat = l.length := by show ((l.length : Int)).toNat = _; omega
  rw [e, hln _ (Nat.le_refl _), List.take_length]; rfl
theorem dF_scan (d : Dc) (l : List Dl) : ScanIs (dF d l) [68] [(dcK 1, dcV (dc1 d l))] := by
  refine ⟨List.pairwise_singleton .., fun k v => ⟨fun h => ?_, fun ⟨h1, h2⟩ => ?_⟩⟩
  · rw [List.mem_singleton] at h
    cases h
    exact ⟨dF_doc d l, rfl⟩
  · have h1' := h1
    unfold dF docsF at h1
    rw [upd_app] at h1
    split at h1
    · rename_i e
      subst e
      rw [dF_doc] at h1'
      cases h1'
      exact List.mem_singleton.2 rfl
    · rcases putLines_some _ _ _ _ _ _ h1 with ⟨j, e⟩ | h
      · rw [e] at h2
        have : ([68] : List UInt8).isPrefixOf (dlK 1 j) = false := rfl
        rw [this] at h2; cases h2
      · rw [upd_app] at h
        split at h
        · rename_i e
          rw [e] at h2
          have : ([68] : List UInt8).isPrefixOf (seqKey 2) = false := rfl
          rw [this] at h2; cases h2
        · cases h
theorem dF_all {d : Dc} {l : List Dl} (hd : d.ok) (h6 : l.length ≤ 6) (y k : Int) : allD y k [(dcK 1, dcV (dc1 d l))] = if d.year = y ∧ d.kind = k then [1] else [] := by
  have := docOf_put (dc1_ok (l := l) hd h6) ⟨by show (0 : Int) ≤ 1; omega, by show (1 : Int) ≤ _; omega⟩
  have e : dcK (dc1 d l).id = dcK 1 := rfl
  rw [e] at this
  have hof : ofYK y k (dcK 1, dcV (dc1 d l)) = if d.year = y ∧ d.kind = k then some 1 else none := by
    unfold ofYK
    simp only [this, Option.bind_some]
    rfl
  unfold allD
  rw [List.filterMap_cons, hof]
  split
  · rename_i h; split at h
    · cases h
    · rename_i hc; rw [if_neg hc]; rfl
  · rename_i h; split at h
    · rename_i hc; cases h; rw [if_pos hc]; rfl
    · cases h
end Go.Proofs.Lx
/- The law DocsBack: walks. -/
set_option linter.unusedSimpArgs false
set_option linter.unusedVariables false
namespace Go.Proofs.Lx
open Go.Vm
attribute [local irreducible] awpArr awpBin awpMake awpAppend awpCvX awpStrOf awpBinX awpSlice awpBS awpStore awpAlloc awpCopy awpIndex awpDraw awpIdxX awpFa awpField awpLookup awpUpdate awpDelete awpClear awpRange awpNext awpEntry awpBuild awpClearS awpIdxL awpTree appB awpIdxO eltA treeA
theorem eqDl (x y : Dl) : ((x.node == y.node) && ((x.orig == y.orig) && ((x.liq == y.liq) && (x.can == y.can)))) = true ↔ x = y := by
  obtain ⟨a, b, c, d⟩ := x
  obtain ⟨a2, b2, c2, d2⟩ := y
  simp [and_assoc]
def eqSpecDl : Vm.Spec := fun args h Q => ∃ l l' : List Dl, l.length ≤ 9223372036854775807 ∧ args = [.sl 4 (l.map dlAv), .sl 4 (l'.map dlAv)] ∧ ∀ b : Bool, (b = true ↔ l = l') → Q (.v (.bool b)) h
set_option maxHeartbeats 1000000 in
theorem does_eqDl : Does Tryz.prog 38 eqSpecDl := by
  refine does_of_awp good_nil Tryz.func38 rfl (by decide +kernel) (by decide +kernel) ?_
  rintro args h Q ⟨l, l', hl, rfl, hq⟩
  refine ⟨by simp [Tryz.f38], ?_⟩
  rw [awpFunc_some (by rfl)]
  simp -dsimp only [Vm.G, List.lookup, Nat.reduceAdd, Nat.reduceBEq, Int.reduceBNe, Int.reduceBEq, Nat.reduceLeDiff, q38]
  by_cases hlen : l.length = l'.length
  · have c1 : ((l.length : Int) != l'.length) = false := by simp [hlen]
    simp -dsimp only [Vm.G, List.lookup, Nat.reduceAdd, Nat.reduceBEq, Int.reduceBNe, Int.reduceBEq, Nat.reduceLeDiff, q38, c1]
    refine awp_loop (fun m s h' => ∃ i : Nat, i + m = l.length ∧ h' = h ∧ (∀ j (hj : j < l.length), j < i → l[j] = l'[j]'(by omega)) ∧ s = mk [(0, .sl 4 (l.map dlAv)), (1, .sl 4 (l'.map dlAv)), (12, .v (.int .i64 l.length)), (13, .v (.int .i64 i))])
      l.length _ (le_mk _ ?_) ⟨0, by omega, rfl, fun j _ hj => by omega, rfl⟩ ?_
    · simp only [List.forall_mem_cons, List.not_mem_nil, false_imp_iff, implies_true, and_true]
      try simp -dsimp only [Vm.G, List.lookup, Nat.reduceAdd, Nat.reduceBEq, Int.reduceBNe, Int.reduceBEq, Nat.reduceLeDiff, q38]
      repeat' first | exact Fg.refl _ | exact Fg.nil _ _ _ (by decide) | refine And.intro ?_ ?_
    · rintro m s h' ⟨i, hi, rfl, hb, rfl⟩
      simp -dsimp only [Vm.G, List.lookup, Nat.reduceAdd, Nat.reduceBEq, Int.reduceBNe, Int.reduceBEq, Nat.reduceLeDiff, q38]
      refine cond_intro (fun hcc => ?_) (fun hcc => ?_)
      · have hlt : i < l.length := by have := of_decide_eq_true hcc; omega
        have hlt' : i < l'.length := by omega
        obtain ⟨x, hx⟩ : ∃ x, l[i] = x := ⟨_, rfl⟩
        obtain ⟨y, hy⟩ : ∃ y, l'[i] = y := ⟨_, rfl⟩
        have hw : IntKind.i64.wrap ((i : Int) + 1) = ((i + 1 : Nat) : Int) := by rw [wrap_i64 (by omega) (by omega)]; simp
        simp -dsimp only [Vm.G, List.lookup, Nat.reduceAdd, Nat.reduceBEq, Int.reduceBNe, Int.reduceBEq, Nat.reduceLeDiff, q38]
        refine draw_cont [] (.take 0 (.take 1 (.take 2 (.take 3 (.take 4 (.take 5 (.take 6 (.take 7 (.take 8 (.done)))))))))) (fun s hx => hx = h' ∧ (∃ b : Bool, (b = true ↔ x = y) ∧ s 24 = .v (.bool (!b))) ∧ s 0 = .sl 4 (l.map dlAv) ∧ s 1 = .sl 4 (l'.map dlAv) ∧ s 12 = .v (.int .i64 l.length) ∧ s 13 = .v (.int .i64 i)) (by kernel_rfl) (by kernel_rfl) (by kernel_rfl) (by decide) ?_ ?_
        · simp -dsimp only [Vm.G, List.lookup, Nat.reduceAdd, Nat.reduceBEq, Int.reduceBNe, Int.reduceBEq, Nat.reduceLeDiff, q38]
          refine idx_map dlAv l i hlt ?_
          simp only [hx, dlAv, dlCells]
          simp -dsimp only [Vm.G, List.lookup, Nat.reduceAdd, Nat.reduceBEq, Int.reduceBNe, Int.reduceBEq, Nat.reduceLeDiff, q38, AV.cells]
          refine idx_map dlAv l' i hlt' ?_
          simp only [hy, dlAv, dlCells]
          simp -dsimp only [Vm.G, List.lookup, Nat.reduceAdd, Nat.reduceBEq, Int.reduceBNe, Int.reduceBEq, Nat.reduceLeDiff, q38, AV.cells]
          refine eq_agg fd62 rfl ?_
          simp -dsimp only [Vm.G, List.lookup, Nat.reduceAdd, Nat.reduceBEq, Int.reduceBNe, Int.reduceBEq, Nat.reduceLeDiff, q38]
          refine ⟨⟨_, eqDl x y, rfl⟩, ?_⟩
          repeat' first | rfl | exact True.intro | refine And.intro ?_ ?_
        · rintro s hx2 ⟨rfl, ⟨b, hbe, e24⟩, e0, e1, e12, e13⟩
          cases b
          · have hne : ¬ l = l' := fun e => by
              have : x = y := by subst e; rw [← hx, ← hy]
              have := hbe.2 this
              cases this
            simp -dsimp only [Vm.G, List.lookup, Nat.reduceAdd, Nat.reduceBEq, Int.reduceBNe, Int.reduceBEq, Nat.reduceLeDiff, q38, e24, e0, e1, e12, e13]
            exact hq false ⟨fun h => (by cases h), fun h => (hne h).elim⟩
          · have he := hbe.1 rfl
            simp -dsimp only [Vm.G, List.lookup, Nat.reduceAdd, Nat.reduceBEq, Int.reduceBNe, Int.reduceBEq, Nat.reduceLeDiff, q38, e24, e0, e1, e12, e13]
            refine kept_intro ⟨l.length - (i + 1), by omega, _, le_mk [(0, .sl 4 (l.map dlAv)), (1, .sl 4 (l'.map dlAv)), (12, .v (.int .i64 l.length)), (13, .v (.int .i64 (i + 1 : Nat)))] ?_, i + 1, by omega, rfl, fun j hj hj2 => ?_, rfl⟩
            · simp only [List.forall_mem_cons, List.not_mem_nil, false_imp_iff, implies_true, and_true, hw, e24, e0, e1, e12, e13]
              try simp -dsimp only [Vm.G, List.lookup, Nat.reduceAdd, Nat.reduceBEq, Int.reduceBNe, Int.reduceBEq, Nat.reduceLeDiff, q38, hw, e24, e0, e1, e12, e13]
              repeat' first | exact Fg.refl _ | exact Fg.nil _ _ _ (by decide) | refine And.intro ?_ ?_
            · by_cases hji : j = i
              · subst hji; rw [hx, hy]; exact he
              · exact hb j hj (by omega)
      · have hge : ¬ i < l.length := by have := of_decide_eq_false hcc; omega
        have he : l = l' := List.ext_getElem hlen fun j h1 h2 => hb j h1 (by omega)
        simp -dsimp only [Vm.G, List.lookup, Nat.reduceAdd, Nat.reduceBEq, Int.reduceBNe, Int.reduceBEq, Nat.reduceLeDiff, q38]
        exact hq true ⟨fun _ => he, fun _ => rfl⟩
  · have c1 : ((l.length : Int) != l'.length) = true := by simp; omega
    simp -dsimp only [Vm.G, List.lookup, Nat.reduceAdd, Nat.reduceBEq, Int.reduceBNe, Int.reduceBEq, Nat.reduceLeDiff, q38, c1]
    exact hq false ⟨fun h => (by cases h), fun h => (hlen (by rw [h])).elim⟩
def da : Dc := ⟨0, 1, 2020, 0, 0⟩
def dla : List Dl := [⟨3, 5, 0, 0⟩]
theorem da_ok : da.ok := by simp [Dc.ok, da, I64]
theorem dla_ok : ∀ x ∈ dla, x.ok := by simp [dla, Dl.ok, I64]
set_option maxRecDepth 20000 in
set_option maxHeartbeats 2000000 in
theorem does_law30awake : Does Tryz.prog 35 trueSpec := by
  refine does_of_awp (good_cons does_vnewA (good_cons does_docsPut (good_cons does_docsGet (good_cons does_docsOpen (good_cons does_docsRight (good_cons does_docsAll (good_cons does_eqInt good_nil))))))) Tryz.func35 rfl (by decide +kernel) (by decide +kernel) ?_
  rintro args h Q ⟨rfl, hq⟩
  refine ⟨by simp [Tryz.f35], ?_⟩
  rw [awpFunc_some (by rfl)]
  simp -dsimp only [Vm.G, List.lookup, Nat.reduceAdd, Nat.reduceBEq, Int.reduceBNe, Int.reduceBEq, Nat.reduceLeDiff, q35]
  refine call_one (S := vnewASpec) rfl _ GaL.rfl ⟨rfl, fun V h0 hV => ?_⟩
  simp -dsimp only [Vm.G, List.lookup, Nat.reduceAdd, Nat.reduceBEq, Int.reduceBNe, Int.reduceBEq, Nat.reduceLeDiff, q35]
  refine bs_intro zr62 (by decide) (by decide) rfl rfl (by simp [solid, AV.cells]) ?_
  simp -dsimp only [Vm.G, List.lookup, Nat.reduceAdd, Nat.reduceBEq, Int.reduceBNe, Int.reduceBEq, Nat.reduceLeDiff, q35]
  refine call_one (S := docsPutSpec) rfl _ GaL.rfl ⟨V, noF, da, dla, da_ok, dla_ok, rfl, hV, fun h1 hV1 _ => ?_⟩
  rw [docs_put (d := da) (l := dla) (by decide) (by decide)] at hV1 ⊢
  simp only at hV1 ⊢
  simp -dsimp only [Vm.G, List.lookup, Nat.reduceAdd, Nat.reduceBEq, Int.reduceBNe, Int.reduceBEq, Nat.reduceLeDiff, q35]
  refine call_one (S := docsGetSpec) rfl _ GaL.rfl ⟨V, dF da dla, 1, rfl, hV1, fun d l hd hl6 hdl => ?_, fun hd => by rw [dF_at da_ok dla_ok (by decide) (by decide)] at hd; cases hd⟩
  rw [dF_at da_ok dla_ok (by decide) (by decide)] at hd
  cases hd
  have e1 : (dc1 da dla).lines = 1 := rfl
  have e2 : (dla.map dlAv).length = 1 := rfl
  have e3 : (dla.map dlAv)[(0 : Int).toNat]? = some (dlAv ⟨3, 5, 0, 0⟩) := rfl
  have k1 : (((1 : Nat) : Int) == 1) = true := rfl
  have ho : (openD ⟨3, 5, 0, 0⟩ == 5) = true := by decide
  have hr : rightD ⟨3, 5, 0, 0⟩ = true := by decide
  generalize hxs : dla.map dlAv = xs at e2 e3 ⊢
  simp only [dcCells, e1]
  simp -dsimp only [Vm.G, List.lookup, Nat.reduceAdd, Nat.reduceBEq, Int.reduceBNe, Int.reduceBEq, Nat.reduceLeDiff, q35]
  refine nil_pointer Tryz.underlying24 ?_
  simp -dsimp only [Vm.G, List.lookup, Nat.reduceAdd, Nat.reduceBEq, Int.reduceBNe, Int.reduceBEq, Nat.reduceLeDiff, q35, e2, k1]
  refine idxO_intro (by decide) (by rw [e2]; decide) ?_
  simp -dsimp only [Vm.G, List.lookup, Nat.reduceAdd, Nat.reduceBEq, Int.reduceBNe, Int.reduceBEq, Nat.reduceLeDiff, q35]
  refine eltA_intro e3 ?_
  simp only [dlAv, dlCells]
  simp -dsimp only [Vm.G, List.lookup, Nat.reduceAdd, Nat.reduceBEq, Int.reduceBNe, Int.reduceBEq, Nat.reduceLeDiff, q35, AV.cells, List.drop_zero]
  refine call_one (S := openDSpec) rfl _ GaL.rfl ⟨⟨3, 5, 0, 0⟩, rfl, ?_⟩
  simp -dsimp only [Vm.G, List.lookup, Nat.reduceAdd, Nat.reduceBEq, Int.reduceBNe, Int.reduceBEq, Nat.reduceLeDiff, q35, ho]
  refine idxO_intro (by decide) (by rw [e2]; decide) ?_
  simp -dsimp only [Vm.G, List.lookup, Nat.reduceAdd, Nat.reduceBEq, Int.reduceBNe, Int.reduceBEq, Nat.reduceLeDiff, q35]
  refine eltA_intro e3 ?_
  simp only [dlAv, dlCells]
  simp -dsimp only [Vm.G, List.lookup, Nat.reduceAdd, Nat.reduceBEq, Int.reduceBNe, Int.reduceBEq, Nat.reduceLeDiff, q35, AV.cells, List.drop_zero]
  refine call_one (S := rightDSpec) rfl _ GaL.rfl ⟨⟨3, 5, 0, 0⟩, rfl, ?_⟩
  rw [hr]
  simp -dsimp only [Vm.G, List.lookup, Nat.reduceAdd, Nat.reduceBEq, Int.reduceBNe, Int.reduceBEq, Nat.reduceLeDiff, q35]
  refine call_one (S := docsAllSpec) rfl _ GaL.rfl ⟨V, dF da dla, 2020, 1, rfl, hV1, by decide, fun kv h2 hsc _ hV2 _ => ?_⟩
  rw [hsc.same (dF_scan da dla), dF_all da_ok (by decide), if_pos ⟨rfl, rfl⟩]
  simp -dsimp only [Vm.G, List.lookup, Nat.reduceAdd, Nat.reduceBEq, Int.reduceBNe, Int.reduceBEq, Nat.reduceLeDiff, q35]
  refine bs_intro zr3 (by decide) (by decide) rfl rfl (by simp [solid, AV.cells]) ?_
  simp -dsimp only [Vm.G, List.lookup, Nat.reduceAdd, Nat.reduceBEq, Int.reduceBNe, Int.reduceBEq, Nat.reduceLeDiff, q35]
  refine call_one (S := eqIntSpec) rfl _ GaL.rfl ⟨[1], [1], by simp, rfl, ?_⟩
  simp -dsimp only [Vm.G, List.lookup, Nat.reduceAdd, Nat.reduceBEq, Int.reduceBNe, Int.reduceBEq, Nat.reduceLeDiff, q35]
  exact hq _
theorem isA_dl {y : AV} (h : IsA (.agg [.int .i64, .int .i64, .int .i64, .int .i64]) y) : ∃ x : Dl, x.ok ∧ y = dlAv x := by
  simp only [IsA, IsAll] at h
  obtain ⟨ys, ⟨y1, r1, rfl, h1, y2, r2, rfl, h2, y3, r3, rfl, h3, y4, r4, rfl, h4, rfl⟩, rfl⟩ := h
  obtain ⟨a1, k1, rfl⟩ := isA_int (by simpa only [IsA] using h1)
  obtain ⟨a2, k2, rfl⟩ := isA_int (by simpa only [IsA] using h2)
  obtain ⟨a3, k3, rfl⟩ := isA_int (by simpa only [IsA] using h3)
  obtain ⟨a4, k4, rfl⟩ := isA_int (by simpa only [IsA] using h4)
  exact ⟨⟨a1, a2, a3, a4⟩, ⟨k1, k2, k3, k4⟩, rfl⟩
end Go.Proofs.Lx
/- Encumbrances: plain laws and bounds. -/
set_option linter.unusedSimpArgs false
set_option linter.unusedVariables false
namespace Go.Proofs.Lx
open Go.Vm
attribute [local irreducible] awpArr awpBin awpMake awpAppend awpCvX awpStrOf awpBinX awpSlice awpBS awpStore awpAlloc awpCopy awpIndex awpDraw awpIdxX awpFa awpField awpLookup awpUpdate awpDelete awpClear awpRange awpNext awpEntry awpBuild awpClearS awpIdxL awpTree appB awpIdxO eltA treeA
theorem putLines_bound (id : Int) : ∀ (l : List Dl) (i : Nat) (f : Fun), (putLines id i l f).n = f.n + l.length
  | [], _, _ => rfl
  | x :: r, i, f => by
    show (putLines id (i + 1) r (upd f (dlK id i) (some (dlV x)))).n = _
    rw [putLines_bound id r (i + 1)]
    show f.n + 1 + r.length = f.n + (r.length + 1)
    omega
theorem docsPut_n (f : Fun) (d : Dc) (l : List Dl) : (docsPut f d l).1.n ≤ f.n + 8 := by
  unfold docsPut
  split
  · exact Nat.le_add_right _ _
  · split
    · exact Nat.le_add_right _ _
    · show (putLines _ 0 l (upd f (seqKey 2) _)).n + 1 ≤ _
      rw [putLines_bound]
      show f.n + 1 + l.length + 1 ≤ _
      omega
end Go.Proofs.Lx
