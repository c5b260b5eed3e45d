/- The reference reads a tape. -/
import Derived.Test.YtfejonkjfeedcaaDoorTapeI
set_option linter.unusedSimpArgs false
set_option linter.unusedVariables false
namespace Go.Proofs
open Go.Vm
attribute [local irreducible] awpMake awpAppend awpCvX awpStrOf awpBinX awpSlice awpBS awpStore awpAlloc awpCopy awpIndex awpDraw awpIdxX awpFa awpField

theorem zr22 : ((Tryd.prog.info? 22).any fun i => i.zero.isSome) = true := by kernel_rfl
theorem ei27 : elemIn Tryd.prog 27 = some (22, 1, 24) := by kernel_rfl

/-- What is read of a tape. -/
def readSpec : Vm.Spec := fun args h Q => ∃ t : List UInt8, t.length ≤ 35184372 ∧ args = [.sl 1 (t.map encB)] ∧
  Q (.tup [.sl 1 ((readOf t).map encL), .v (.int .i64 (endOf (readOf t)))]) h

theorem nextP_len {r b : List UInt8} (h : nextP r = some b) : b.length + 6 ≤ r.length := by
  unfold nextP at h
  simp only at h
  split at h
  · cases h
  · split at h
    · cases h
    · split at h
      · simp only [Option.some.injEq] at h
        rw [← h]; simp; omega
      · cases h

theorem endOf_ge (l : List (List UInt8)) : l.length * 6 ≤ endOf l := by
  induction l with
  | nil => simp [endOf]
  | cons b l ih => simp [endOf] at ih ⊢; omega
theorem endOf_snoc (l : List (List UInt8)) (b : List UInt8) : endOf (l ++ [b]) = endOf l + (b.length + 6) := by simp [endOf]

def T13 : Tab := ext (ext T12 37 firstSpec) 13 bytesSpec
theorem good13 : Good T13 := good_ext (good_ext good12 does_first) does_bytes

/-- A round of the reading: what was read ahead, what is left. -/
structure Mid (t : List UInt8) (pre : List (List UInt8)) (r : List UInt8) (f : Nat) : Prop where
  all : readOf t = pre ++ reads f r
  rest : r = t.drop (endOf pre)
  le : endOf pre ≤ t.length
  fuel : r.length ≤ f

theorem Mid.start (t : List UInt8) : Mid t [] t t.length := ⟨rfl, rfl, Nat.zero_le _, Nat.le_refl _⟩
theorem Mid.step {t : List UInt8} {pre : List (List UInt8)} {r : List UInt8} {f : Nat} (h : Mid t pre r f) {b : List UInt8} (hb : nextP r = some b) :
    ∃ g, f = g + 1 ∧ Mid t (pre ++ [b]) (r.drop (b.length + 6)) g := by
  have hl := nextP_len hb
  have hr := h.rest
  have hlen : r.length = t.length - endOf pre := by rw [hr]; simp
  cases f with
  | zero => have := h.fuel; omega
  | succ g =>
    refine ⟨g, rfl, ?_, ?_, ?_, ?_⟩
    · rw [h.all, reads, hb]; simp
    · rw [endOf_snoc, hr, List.drop_drop]
    · rw [endOf_snoc]; have := h.le; omega
    · simp; have := h.fuel; omega
theorem Mid.stop {t : List UInt8} {pre : List (List UInt8)} {r : List UInt8} {f : Nat} (h : Mid t pre r f) (hb : nextP r = none) : readOf t = pre := by
  rw [h.all]
  cases f with
  | zero => simp [reads]
  | succ g => simp [reads, hb]

theorem does_refRead : Does Tryd.prog 11 readSpec := by
  refine does_of_awp good13 Tryd.func11 rfl (by decide +kernel) (by decide +kernel) ?_
  rintro args h Q ⟨t, ht, rfl, hq⟩
  refine ⟨by simp [Tryd.f11], ?_⟩
  rw [awpFunc_some (by rfl)]
  simp -dsimp only [Vm.E, List.lookup, Nat.reduceAdd, Nat.reduceBEq]
  refine awp_loop (fun n s h' => ∃ pre r, Mid t pre r n ∧ h' = h ∧ s = mk [(0, .sl 1 (t.map encB)), (4, .own false 22 1 (pre.map encL)), (5, .v (.int .i64 (endOf pre)))])
      t.length _ (le_mk _ ?_) ⟨[], t, Mid.start t, rfl, rfl⟩ ?_
  · simp only [List.forall_mem_cons, List.not_mem_nil, false_imp_iff, implies_true, and_true]
    simp -dsimp only [Vm.E, List.lookup, Nat.reduceAdd, Nat.reduceBEq, init_get]
    exact ⟨.refl _, .nil _ _ _ (by decide), .refl _⟩
  · rintro n s h' ⟨pre, r, hm, rfl, rfl⟩
    have hle := hm.le
    have hr := hm.rest
    have hrl : r.length = t.length - endOf pre := by rw [hr]; simp
    simp -dsimp only [Vm.E, List.lookup, Nat.reduceAdd, Nat.reduceBEq]
    refine call_one (S := getSpec) rfl _ GaL.rfl ⟨t, endOf pre, 2, by omega, by omega, rfl, ?_⟩
    by_cases h2 : r.length < 2
    · have hres : getRes t (endOf pre) 2 = [.v (.int .i64 0), .v (.int .i64 3)] := by
        unfold getRes
        rw [if_neg (by simp; decide), if_pos (by omega)]
      rw [hres]
      have hne : ((3 : Int) != 0) = true := by decide
      simp -dsimp only [Vm.E, List.lookup, Nat.reduceAdd, Nat.reduceBEq, ext_0, ext_1, hne, Tryd.results11]
      rw [hm.stop (by unfold nextP; rw [if_pos h2])] at hq
      exact hq
    · have hl2 : (r.take 2).length = 2 := by simp; omega
      have hres : getRes t (endOf pre) 2 = [.v (.int .i64 ((getOf (r.take 2)).toNat : Int)), .v (.int .i64 0)] := by
        unfold getRes
        rw [if_neg (by simp; decide), if_neg (by omega)]
        rw [show (t.drop (endOf pre : Int).toNat).take (2 : Int).toNat = r.take 2 by simp [hr], get2_int _ hl2]
      rw [hres]
      have hlt := get2_lt _ hl2
      have hnp : nextP r = (if r.length < (getOf (r.take 2)).toNat + 6 then none else if pieceOf ((r.drop 2).take (getOf (r.take 2)).toNat) = r.take ((getOf (r.take 2)).toNat + 6) then some ((r.drop 2).take (getOf (r.take 2)).toNat) else none) := by
        unfold nextP; rw [if_neg h2]
      generalize (getOf (r.take 2)).toNat = k at hlt hnp ⊢
      have hne : ((0 : Int) != 0) = false := by decide
      simp -dsimp only [Vm.E, List.lookup, Nat.reduceAdd, Nat.reduceBEq, ext_0, ext_1, hne, Tryd.underlying22]
      rw [wrap_i64 (n := (t.length : Int) - endOf pre) (by omega) (by omega), wrap_i64 (by omega) (by omega)]
      refine cond_intro (fun hc => ?_) (fun hc => ?_)
      · have hgt : r.length < k + 6 := by have := of_decide_eq_true hc; omega
        rw [if_pos hgt] at hnp
        simp -dsimp only [Vm.E, List.lookup, Nat.reduceAdd, Nat.reduceBEq, Tryd.results11]
        rw [hm.stop hnp] at hq
        exact hq
      · have hge : ¬ r.length < k + 6 := by have := of_decide_eq_false hc; omega
        rw [if_neg hge] at hnp
        simp -dsimp only [Vm.E, List.lookup, Nat.reduceAdd, Nat.reduceBEq, Tryd.underlying22]
        rw [wrap_i64 (n := (endOf pre : Int) + 2) (by omega) (by omega), wrap_i64 (n := (endOf pre : Int) + 2 + k) (by omega) (by omega)]
        refine slice_lh es22 (by omega) (by omega) (by simp; omega) ?_
        have hsl : ((t.map encB).take ((endOf pre : Int) + 2 + k).toNat).drop ((endOf pre : Int) + 2).toNat = ((r.drop 2).take k).map encB := by
          rw [← List.map_take, ← List.map_drop, List.drop_take, hr, List.drop_drop]
          congr 2
          omega
        rw [hsl]
        have hbl : ((r.drop 2).take k).length = k := by simp; omega
        generalize hbb : (r.drop 2).take k = b at hnp hbl
        simp -dsimp only [Vm.E, List.lookup, Nat.reduceAdd, Nat.reduceBEq, append_nil ei22]
        refine app_sl Tryd.underlying22 (fun c hc => by obtain ⟨y, -, rfl⟩ := List.mem_map.1 hc; rfl) ?_ ?_
        · simp only [List.length_map, List.length_nil]; omega
        simp -dsimp only [Vm.E, List.lookup, Nat.reduceAdd, Nat.reduceBEq]
        refine call_one (S := pieceSpec) rfl _ GaL.rfl ⟨b, by omega, rfl, ?_⟩
        simp -dsimp only [Vm.E, List.lookup, Nat.reduceAdd, Nat.reduceBEq, awp_draw]
        refine draw_intro (.take 0 (.take 2 (.take 3 (.take 4 (.take 5 (.take 6 (.take 7 (.take 8 (.alt 1 (.alt 9 (.alt 10 (.done) .stop) .stop) (.alt 9 (.alt 1 (.alt 10 (.done) .stop) .stop) (.stop))))))))))) (by kernel_rfl) (by kernel_rfl) (by kernel_rfl) (by decide) ?_
        simp -dsimp only [Vm.E, List.lookup, Nat.reduceAdd, Nat.reduceBEq, tree_take, treeA_some, Tryd.underlying22]
        rw [wrap_i64 (n := (endOf pre : Int) + 6) (by omega) (by omega), wrap_i64 (n := (endOf pre : Int) + 6 + k) (by omega) (by omega)]
        refine slice_lh es22 (by omega) (by omega) (by simp; omega) ?_
        have hsl2 : ((t.map encB).take ((endOf pre : Int) + 6 + k).toNat).drop (endOf pre : Int).toNat = (r.take (k + 6)).map encB := by
          rw [← List.map_take, ← List.map_drop, List.drop_take, hr]
          congr 2
          omega
        rw [hsl2]
        simp -dsimp only [Vm.E, List.lookup, Nat.reduceAdd, Nat.reduceBEq]
        refine tree_alt ?_ ?_
        · simp -dsimp only [Vm.E, List.lookup, Nat.reduceAdd, Nat.reduceBEq, tree_one, treeA_some, cs22]
          refine strOf_sl bt22 (pieceOf b) rfl ?_
          simp -dsimp only [Vm.E, List.lookup, Nat.reduceAdd, Nat.reduceBEq, tree_one, treeA_some, tree_done, cs22]
          refine strOf_sl bt22 (r.take (k + 6)) rfl ?_
          simp -dsimp only [Vm.E, List.lookup, Nat.reduceAdd, Nat.reduceBEq, tree_one, treeA_some, tree_done, str_neq, toList_mk]
          refine cond_intro (fun hd => ?_) (fun hd => ?_)
          · have hne : ¬ pieceOf b = r.take (k + 6) := by simpa using hd
            rw [if_neg hne] at hnp
            simp -dsimp only [Vm.E, List.lookup, Nat.reduceAdd, Nat.reduceBEq, Tryd.results11]
            rw [hm.stop hnp] at hq
            exact hq
          · have heq : pieceOf b = r.take (k + 6) := by simpa using hd
            rw [if_pos heq] at hnp
            obtain ⟨g, rfl, hm2⟩ := hm.step hnp
            simp -dsimp only [Vm.E, List.lookup, Nat.reduceAdd, Nat.reduceBEq, es27]
            refine bs_intro zr22 (by decide) (by decide) rfl rfl (by simp [solid, AV.cells]) ?_
            simp -dsimp only [Vm.E, List.lookup, Nat.reduceAdd, Nat.reduceBEq, append_own ei27]
            refine app_sl Tryd.underlying27 (by simp [AV.cells]) ?_ ?_
            · have := endOf_ge pre
              simp only [List.length_map, List.length_cons, List.length_nil]; omega
            simp -dsimp only [Vm.E, List.lookup, Nat.reduceAdd, Nat.reduceBEq]
            refine kept_intro ⟨g, by omega, _, le_mk [(0, .sl 1 (t.map encB)), (4, .own false 22 1 ((pre ++ [b]).map encL)), (5, .v (.int .i64 (endOf (pre ++ [b]))))] ?_, pre ++ [b], _, hm2, rfl, rfl⟩
            simp only [List.forall_mem_cons, List.not_mem_nil, false_imp_iff, implies_true, and_true]
            simp -dsimp only [Vm.E, List.lookup, Nat.reduceAdd, Nat.reduceBEq]
            rw [wrap_i64 (n := (endOf pre : Int) + 6) (by omega) (by omega), wrap_i64 (n := (endOf pre : Int) + 6 + k) (by omega) (by omega)]
            have e1 : pre.map encL ++ [.sl 1 (b.map encB)] = (pre ++ [b]).map encL := by simp [encL]
            have e2 : (endOf pre : Int) + 6 + k = (endOf (pre ++ [b]) : Int) := by rw [endOf_snoc]; omega
            rw [e1, e2]
            exact ⟨.refl _, .refl _, .refl _⟩
        · simp -dsimp only [Vm.E, List.lookup, Nat.reduceAdd, Nat.reduceBEq, tree_one, treeA_some, cs22]
          refine strOf_sl bt22 (r.take (k + 6)) rfl ?_
          simp -dsimp only [Vm.E, List.lookup, Nat.reduceAdd, Nat.reduceBEq, tree_one, treeA_some, tree_done, cs22]
          refine strOf_sl bt22 (pieceOf b) rfl ?_
          simp -dsimp only [Vm.E, List.lookup, Nat.reduceAdd, Nat.reduceBEq, tree_one, treeA_some, tree_done, str_neq, toList_mk]
          refine cond_intro (fun hd => ?_) (fun hd => ?_)
          · have hne : ¬ pieceOf b = r.take (k + 6) := by simpa using hd
            rw [if_neg hne] at hnp
            simp -dsimp only [Vm.E, List.lookup, Nat.reduceAdd, Nat.reduceBEq, Tryd.results11]
            rw [hm.stop hnp] at hq
            exact hq
          · have heq : pieceOf b = r.take (k + 6) := by simpa using hd
            rw [if_pos heq] at hnp
            obtain ⟨g, rfl, hm2⟩ := hm.step hnp
            simp -dsimp only [Vm.E, List.lookup, Nat.reduceAdd, Nat.reduceBEq, es27]
            refine bs_intro zr22 (by decide) (by decide) rfl rfl (by simp [solid, AV.cells]) ?_
            simp -dsimp only [Vm.E, List.lookup, Nat.reduceAdd, Nat.reduceBEq, append_own ei27]
            refine app_sl Tryd.underlying27 (by simp [AV.cells]) ?_ ?_
            · have := endOf_ge pre
              simp only [List.length_map, List.length_cons, List.length_nil]; omega
            simp -dsimp only [Vm.E, List.lookup, Nat.reduceAdd, Nat.reduceBEq]
            refine kept_intro ⟨g, by omega, _, le_mk [(0, .sl 1 (t.map encB)), (4, .own false 22 1 ((pre ++ [b]).map encL)), (5, .v (.int .i64 (endOf (pre ++ [b]))))] ?_, pre ++ [b], _, hm2, rfl, rfl⟩
            simp only [List.forall_mem_cons, List.not_mem_nil, false_imp_iff, implies_true, and_true]
            simp -dsimp only [Vm.E, List.lookup, Nat.reduceAdd, Nat.reduceBEq]
            rw [wrap_i64 (n := (endOf pre : Int) + 6) (by omega) (by omega), wrap_i64 (n := (endOf pre : Int) + 6 + k) (by omega) (by omega)]
            have e1 : pre.map encL ++ [.sl 1 (b.map encB)] = (pre ++ [b]).map encL := by simp [encL]
            have e2 : (endOf pre : Int) + 6 + k = (endOf (pre ++ [b]) : Int) := by rw [endOf_snoc]; omega
            rw [e1, e2]
            exact ⟨.refl _, .refl _, .refl _⟩
end Go.Proofs
