/- The law TapeBack. -/
import Derived.Test.YtfejonkjfeedcaaDoorTapeQ
set_option linter.unusedSimpArgs false
set_option linter.unusedVariables false
namespace Go.Proofs
open Go.Vm
attribute [local irreducible] awpMake awpAppend awpCvX awpStrOf awpBinX awpSlice awpBS awpStore awpAlloc awpCopy awpIndex awpDraw awpIdxX awpFa awpField

def T17 : Tab := ext T16 15 fewSpec
theorem good17 : Good T17 := good_ext good16 does_few

theorem few_spec {l : List (List UInt8)} (h : fewOf l = true) : l.length ≤ 40 ∧ (∀ b ∈ l, b.length ≤ 600) ∧ sumLen l ≤ 6000 := by
  simp only [fewOf, Bool.and_eq_true, decide_eq_true_eq, List.all_eq_true] at h
  exact ⟨h.1.1, h.1.2, h.2⟩
theorem end_eq (l : List (List UInt8)) : endOf l = sumLen l + 6 * l.length := by
  induction l with
  | nil => rfl
  | cons b l ih => simp [endOf, sumLen] at ih ⊢; omega
theorem end_take (l : List (List UInt8)) (i : Nat) : endOf (l.take i) ≤ endOf l := by
  induction l generalizing i with
  | nil => simp
  | cons b l ih => cases i with
    | zero => simp [endOf]
    | succ i => have := ih i; simp [endOf] at this ⊢; omega

def backSpec : Vm.Spec := fun args h Q => ∃ (l : List (List UInt8)) (b : List UInt8), l.length ≤ maxLen ∧ args = [.sl 1 (l.map encL), .sl 1 (b.map encB)] ∧ Q (.v (.bool true)) h

set_option maxHeartbeats 1600000 in
theorem does_back : Does Tryd.prog 4 backSpec := by
  refine does_of_awp good17 Tryd.func4 rfl (by decide +kernel) (by decide +kernel) ?_
  rintro args h Q ⟨l, bh, hl, rfl, hq⟩
  refine ⟨by simp [Tryd.f4], ?_⟩
  rw [awpFunc_some (by rfl)]
  simp -dsimp only [Vm.E, List.lookup, Nat.reduceAdd, Nat.reduceBEq, Tryd.underlying22]
  refine call_one (S := fewSpec) rfl _ GaL.rfl ⟨l, hl, rfl, ?_⟩
  cases hf : fewOf l
  · simp -dsimp only [Vm.E, List.lookup, Nat.reduceAdd, Nat.reduceBEq, Tryd.underlying22, Bool.not_false]
    refine call_one (S := trueSpec) rfl _ GaL.rfl ⟨rfl, ?_⟩
    simp -dsimp only [Vm.E, List.lookup, Nat.reduceAdd, Nat.reduceBEq, Tryd.results4]
    exact hq
  · obtain ⟨hf1, hf2, hf3⟩ := few_spec hf
    have hend := end_eq l
    simp -dsimp only [Vm.E, List.lookup, Nat.reduceAdd, Nat.reduceBEq, Tryd.underlying22, Bool.not_true]
    refine cond_intro (fun hc => ?_) (fun hc => ?_)
    · simp -dsimp only [Vm.E, List.lookup, Nat.reduceAdd, Nat.reduceBEq, Tryd.underlying22]
      refine call_one (S := trueSpec) rfl _ GaL.rfl ⟨rfl, ?_⟩
      simp -dsimp only [Vm.E, List.lookup, Nat.reduceAdd, Nat.reduceBEq, Tryd.results4]
      exact hq
    · have hbl : bh.length ≤ 600 := by have := of_decide_eq_false hc; omega
      simp -dsimp only [Vm.E, List.lookup, Nat.reduceAdd, Nat.reduceBEq, Tryd.underlying27]
      refine awp_loop (fun n s h' => ∃ i : Nat, i + n = l.length ∧ h' = h ∧ s = mk [(0, .sl 1 (l.map encL)), (1, .sl 1 (bh.map encB)), (5, .sl 1 ((pieces (l.take i)).map encB)), (24, .sl 1 (l.map encL)), (25, .v (.int .i64 l.length)), (26, .v (.int .i64 i))])
        l.length _ (le_mk _ ?_) ⟨0, by omega, rfl, rfl⟩ ?_
      · simp only [List.forall_mem_cons, List.not_mem_nil, false_imp_iff, implies_true, and_true]
        simp -dsimp only [Vm.E, List.lookup, Nat.reduceAdd, Nat.reduceBEq, init_get]
        exact ⟨.refl _, .refl _, .nils _, .refl _, .refl _, .refl _⟩
      · rintro n s h' ⟨i, hi, rfl, rfl⟩
        have hle := end_take l i
        have hpl := pieces_len (l.take i)
        simp -dsimp only [Vm.E, List.lookup, Nat.reduceAdd, Nat.reduceBEq]
        refine cond_intro (fun hc => ?_) (fun hc => ?_)
        · have hlt : i < l.length := by have := of_decide_eq_true hc; omega
          have hbi := hf2 l[i] (List.getElem_mem hlt)
          simp -dsimp only [Vm.E, List.lookup, Nat.reduceAdd, Nat.reduceBEq, es27, as27]
          refine idx_list l i hlt ?_
          simp -dsimp only [Vm.E, List.lookup, Nat.reduceAdd, Nat.reduceBEq, of22]
          refine call_one (S := appendSpec) rfl _ GaL.rfl ⟨pieces (l.take i), l[i], by omega, rfl, ?_⟩
          rw [if_neg (by omega)]
          have d0 : ((0 : Int) != 0) = false := rfl
          simp -dsimp only [Vm.E, List.lookup, Nat.reduceAdd, Nat.reduceBEq, ext_0, ext_1, d0, Tryd.underlying22]
          have hpl2 := piece_len l[i]
          have e1 : ((pieces (l.take i) ++ pieceOf l[i]).length : Int) = (pieces (l.take i)).length + l[i].length + 6 := by rw [List.length_append]; omega
          rw [wrap_i64 (n := ((pieces (l.take i)).length : Int) + l[i].length) (by omega) (by omega), wrap_i64 (by omega) (by omega), e1]
          have d1 : ∀ n : Int, (n != n) = false := fun n => by simp
          simp -dsimp only [Vm.E, List.lookup, Nat.reduceAdd, Nat.reduceBEq, d1]
          have htk : l.take (i + 1) = l.take i ++ [l[i]] := List.take_succ_eq_append_getElem hlt
          refine kept_intro ⟨l.length - (i + 1), by omega, _, le_mk [(0, .sl 1 (l.map encL)), (1, .sl 1 (bh.map encB)), (5, .sl 1 ((pieces (l.take (i + 1))).map encB)), (24, .sl 1 (l.map encL)), (25, .v (.int .i64 l.length)), (26, .v (.int .i64 (i + 1 : Nat)))] ?_, i + 1, by omega, rfl, rfl⟩
          simp only [List.forall_mem_cons, List.not_mem_nil, false_imp_iff, implies_true, and_true]
          simp -dsimp only [Vm.E, List.lookup, Nat.reduceAdd, Nat.reduceBEq]
          rw [htk, pieces_snoc, wrap_i64 (by omega) (by omega)]
          exact ⟨.refl _, .refl _, .refl _, .refl _, .refl _, .refl _⟩
        · have hge : ¬ i < l.length := by have := of_decide_eq_false hc; omega
          rw [List.take_of_length_le (by omega)] at hle hpl ⊢
          simp -dsimp only [Vm.E, List.lookup, Nat.reduceAdd, Nat.reduceBEq]
          refine call_one (S := cloneSpec) rfl _ GaL.rfl ⟨pieces l, by omega, rfl, ?_⟩
          have hall : ∀ b ∈ l, b.length ≤ 65535 := fun b hb => by have := hf2 b hb; omega
          have hrd := readOf_pieces l hall bh
          have hcut := readOf_cut (pieces l ++ bh)
          have hle2 := end_le (pieces l ++ bh)
          have hal : (pieces l ++ bh).length = (pieces l).length + bh.length := List.length_append
          have hrl : (readOf (pieces l ++ bh)).length = l.length + (readOf bh).length := by rw [hrd, List.length_append]
          have hre : endOf (readOf (pieces l ++ bh)) = (pieces l).length + endOf (readOf bh) := by rw [hrd, hpl]; simp [endOf]
          have htl : (readOf (pieces l ++ bh)).take l.length = l := by rw [hrd]; simp
          have hge6 := endOf_ge (readOf (pieces l ++ bh))
          have hcl : (cutOf (pieces l ++ bh)).length ≤ 35184372 := by unfold cutOf; simp; omega
          have d1 : decide (((readOf (pieces l ++ bh)).length : Int) ≥ l.length) = true := by simp; omega
          have d2 : decide ((endOf (readOf (pieces l ++ bh)) : Int) ≥ (pieces l).length) = true := by simp; omega
          have dn : ∀ n : Int, (n == n) = true := fun n => by simp
          have dl : ∀ l : List (List UInt8), (l == l) = true := fun l => by simp
          unfold cutOf at hcl
          have hA0 : pieces l = [] → bh.map encB = (pieces l ++ bh).map encB := fun h => by rw [h]; rfl
          have hA1 : (pieces l).map encB ++ bh.map encB = (pieces l ++ bh).map encB := by simp
          generalize hA : pieces l ++ bh = A at *
          rintro v (rfl | ⟨h0, rfl⟩)
          · simp -dsimp only [Vm.E, List.lookup, Nat.reduceAdd, Nat.reduceBEq, append_own ei22]
            refine app_sl Tryd.underlying22 (fun c hc => by obtain ⟨y, -, rfl⟩ := List.mem_map.1 hc; rfl) ?_ ?_
            · simp only [List.length_map]; omega
            rw [hA1]
            simp -dsimp only [Vm.E, List.lookup, Nat.reduceAdd, Nat.reduceBEq]
            refine call_one (S := readSpec) rfl _ GaL.rfl ⟨A, by omega, rfl, ?_⟩
            simp -dsimp only [Vm.E, List.lookup, Nat.reduceAdd, Nat.reduceBEq, ext_0, ext_1]
            refine call_one (S := cutSpec) rfl _ GaL.rfl ⟨A, by omega, rfl, ?_⟩
            rintro v (rfl | ⟨h9, rfl⟩)
            · simp -dsimp only [Vm.E, List.lookup, Nat.reduceAdd, Nat.reduceBEq]
              refine call_one (S := readSpec) rfl _ GaL.rfl ⟨cutOf A, hcl, rfl, ?_⟩
              rw [show readOf (cutOf A) = readOf A from hcut]
              simp -dsimp only [Vm.E, List.lookup, Nat.reduceAdd, Nat.reduceBEq, ext_0, ext_1, Tryd.underlying27, Tryd.underlying22, List.length_map, d1, d2]
              refine slice_h es27 (by omega) (by simp; omega) ?_
              have e3 : ((readOf A).map encL).take ((l.length : Nat) : Int).toNat = l.map encL := by rw [Int.toNat_natCast, ← List.map_take, htl]
              rw [e3]
              simp -dsimp only [Vm.E, List.lookup, Nat.reduceAdd, Nat.reduceBEq]
              refine call_one (S := bytesSpec) rfl _ GaL.rfl ⟨l, l, hl, rfl, ?_⟩
              simp -dsimp only [Vm.E, List.lookup, Nat.reduceAdd, Nat.reduceBEq, dl]
              refine call_one (S := bytesSpec) rfl _ GaL.rfl ⟨readOf A, readOf A, by unfold maxLen; omega, rfl, ?_⟩
              simp -dsimp only [Vm.E, List.lookup, Nat.reduceAdd, Nat.reduceBEq, dl, dn]
              refine call_one (S := trueSpec) rfl _ GaL.rfl ⟨rfl, ?_⟩
              simp -dsimp only [Vm.E, List.lookup, Nat.reduceAdd, Nat.reduceBEq, Tryd.results4]
              exact hq
            · simp -dsimp only [Vm.E, List.lookup, Nat.reduceAdd, Nat.reduceBEq]
              refine call_one (S := readSpec) rfl _ (.cons (.nil 1) .nil) ⟨[], by decide, rfl, ?_⟩
              have e9 : readOf [] = readOf A := by rw [← hcut]; exact congrArg readOf h9.symm
              rw [e9]
              simp -dsimp only [Vm.E, List.lookup, Nat.reduceAdd, Nat.reduceBEq, ext_0, ext_1, Tryd.underlying27, Tryd.underlying22, List.length_map, d1, d2]
              refine slice_h es27 (by omega) (by simp; omega) ?_
              have e3 : ((readOf A).map encL).take ((l.length : Nat) : Int).toNat = l.map encL := by rw [Int.toNat_natCast, ← List.map_take, htl]
              rw [e3]
              simp -dsimp only [Vm.E, List.lookup, Nat.reduceAdd, Nat.reduceBEq]
              refine call_one (S := bytesSpec) rfl _ GaL.rfl ⟨l, l, hl, rfl, ?_⟩
              simp -dsimp only [Vm.E, List.lookup, Nat.reduceAdd, Nat.reduceBEq, dl]
              refine call_one (S := bytesSpec) rfl _ GaL.rfl ⟨readOf A, readOf A, by unfold maxLen; omega, rfl, ?_⟩
              simp -dsimp only [Vm.E, List.lookup, Nat.reduceAdd, Nat.reduceBEq, dl, dn]
              refine call_one (S := trueSpec) rfl _ GaL.rfl ⟨rfl, ?_⟩
              simp -dsimp only [Vm.E, List.lookup, Nat.reduceAdd, Nat.reduceBEq, Tryd.results4]
              exact hq
          · simp -dsimp only [Vm.E, List.lookup, Nat.reduceAdd, Nat.reduceBEq, append_nil ei22]
            refine app_sl Tryd.underlying22 (fun c hc => by obtain ⟨y, -, rfl⟩ := List.mem_map.1 hc; rfl) ?_ ?_
            · simp only [List.length_map, List.length_nil]; omega
            rw [List.nil_append, hA0 h0]
            simp -dsimp only [Vm.E, List.lookup, Nat.reduceAdd, Nat.reduceBEq]
            refine call_one (S := readSpec) rfl _ GaL.rfl ⟨A, by omega, rfl, ?_⟩
            simp -dsimp only [Vm.E, List.lookup, Nat.reduceAdd, Nat.reduceBEq, ext_0, ext_1]
            refine call_one (S := cutSpec) rfl _ GaL.rfl ⟨A, by omega, rfl, ?_⟩
            rintro v (rfl | ⟨h9, rfl⟩)
            · simp -dsimp only [Vm.E, List.lookup, Nat.reduceAdd, Nat.reduceBEq]
              refine call_one (S := readSpec) rfl _ GaL.rfl ⟨cutOf A, hcl, rfl, ?_⟩
              rw [show readOf (cutOf A) = readOf A from hcut]
              simp -dsimp only [Vm.E, List.lookup, Nat.reduceAdd, Nat.reduceBEq, ext_0, ext_1, Tryd.underlying27, Tryd.underlying22, List.length_map, d1, d2]
              refine slice_h es27 (by omega) (by simp; omega) ?_
              have e3 : ((readOf A).map encL).take ((l.length : Nat) : Int).toNat = l.map encL := by rw [Int.toNat_natCast, ← List.map_take, htl]
              rw [e3]
              simp -dsimp only [Vm.E, List.lookup, Nat.reduceAdd, Nat.reduceBEq]
              refine call_one (S := bytesSpec) rfl _ GaL.rfl ⟨l, l, hl, rfl, ?_⟩
              simp -dsimp only [Vm.E, List.lookup, Nat.reduceAdd, Nat.reduceBEq, dl]
              refine call_one (S := bytesSpec) rfl _ GaL.rfl ⟨readOf A, readOf A, by unfold maxLen; omega, rfl, ?_⟩
              simp -dsimp only [Vm.E, List.lookup, Nat.reduceAdd, Nat.reduceBEq, dl, dn]
              refine call_one (S := trueSpec) rfl _ GaL.rfl ⟨rfl, ?_⟩
              simp -dsimp only [Vm.E, List.lookup, Nat.reduceAdd, Nat.reduceBEq, Tryd.results4]
              exact hq
            · simp -dsimp only [Vm.E, List.lookup, Nat.reduceAdd, Nat.reduceBEq]
              refine call_one (S := readSpec) rfl _ (.cons (.nil 1) .nil) ⟨[], by decide, rfl, ?_⟩
              have e9 : readOf [] = readOf A := by rw [← hcut]; exact congrArg readOf h9.symm
              rw [e9]
              simp -dsimp only [Vm.E, List.lookup, Nat.reduceAdd, Nat.reduceBEq, ext_0, ext_1, Tryd.underlying27, Tryd.underlying22, List.length_map, d1, d2]
              refine slice_h es27 (by omega) (by simp; omega) ?_
              have e3 : ((readOf A).map encL).take ((l.length : Nat) : Int).toNat = l.map encL := by rw [Int.toNat_natCast, ← List.map_take, htl]
              rw [e3]
              simp -dsimp only [Vm.E, List.lookup, Nat.reduceAdd, Nat.reduceBEq]
              refine call_one (S := bytesSpec) rfl _ GaL.rfl ⟨l, l, hl, rfl, ?_⟩
              simp -dsimp only [Vm.E, List.lookup, Nat.reduceAdd, Nat.reduceBEq, dl]
              refine call_one (S := bytesSpec) rfl _ GaL.rfl ⟨readOf A, readOf A, by unfold maxLen; omega, rfl, ?_⟩
              simp -dsimp only [Vm.E, List.lookup, Nat.reduceAdd, Nat.reduceBEq, dl, dn]
              refine call_one (S := trueSpec) rfl _ GaL.rfl ⟨rfl, ?_⟩
              simp -dsimp only [Vm.E, List.lookup, Nat.reduceAdd, Nat.reduceBEq, Tryd.results4]
              exact hq

end Go.Proofs
