/- The law TapeTorn. -/
import Derived.Test.YtfejonkjfeedcaaDoorTapeR
set_option linter.unusedSimpArgs false
set_option linter.unusedVariables false
namespace Go.Proofs
open Go.Vm
attribute [local irreducible] awpMake awpAppend awpCvX awpStrOf awpBinX awpSlice awpBS awpStore awpAlloc awpCopy awpIndex awpDraw awpIdxX awpFa awpField

/-- Where the pieces end. -/
def endsOf (l : List (List UInt8)) : List Nat := (List.range l.length).map fun i => endOf (l.take (i + 1))
def encI (n : Nat) : AV := .v (.int .i64 (n : Int))

theorem endOf_cons (b : List UInt8) (l : List (List UInt8)) : endOf (b :: l) = b.length + 6 + endOf l := by simp [endOf]

theorem wholes_le (l : List (List UInt8)) (cut : Nat) : wholes l cut ≤ l.length := by
  induction l generalizing cut with
  | nil => simp [wholes]
  | cons b l ih => unfold wholes; split
                   · have := ih (cut - (b.length + 6)); simp; omega
                   · simp

theorem whole_iff : ∀ (l : List (List UInt8)) (cut i : Nat), i < l.length → (endOf (l.take (i + 1)) ≤ cut ↔ i < wholes l cut)
  | [], _, _, h => by simp at h
  | b :: l, cut, 0, _ => by
    rw [List.take_succ_cons, endOf_cons]
    unfold wholes
    by_cases h : b.length + 6 ≤ cut
    · rw [if_pos h]; simp [endOf]; omega
    · rw [if_neg h]; simp [endOf]; omega
  | b :: l, cut, i + 1, h => by
    rw [List.take_succ_cons, endOf_cons]
    unfold wholes
    by_cases hc : b.length + 6 ≤ cut
    · rw [if_pos hc]
      have := whole_iff l (cut - (b.length + 6)) i (by simpa using h)
      omega
    · rw [if_neg hc]; omega

theorem endsOf_get (l : List (List UInt8)) (i : Nat) (h : i < (endsOf l).length) : (endsOf l)[i] = endOf (l.take (i + 1)) := by simp [endsOf]
theorem endsOf_len (l : List (List UInt8)) : (endsOf l).length = l.length := by simp [endsOf]
theorem endsOf_take (l : List (List UInt8)) (i : Nat) (h : i < l.length) : (endsOf l).take (i + 1) = (endsOf l).take i ++ [endOf (l.take (i + 1))] := by
  rw [List.take_succ_eq_append_getElem (by rw [endsOf_len]; exact h), endsOf_get]

theorem es36 : elemSz Tryd.prog 36 = some (3, 1) := by kernel_rfl
theorem as36 : arrSz Tryd.prog 36 = none := by kernel_rfl
theorem ei36 : elemIn Tryd.prog 36 = some (3, 1, 8) := by kernel_rfl
theorem zr3 : ((Tryd.prog.info? 3).any fun i => i.zero.isSome) = true := by kernel_rfl
theorem sz3 : szT Tryd.prog 3 = some 1 := by kernel_rfl
theorem of3 (c : AV) (cs : List AV) (K : AV → Prop) : ofCells Tryd.prog 3 (c :: cs) K = K (val c) := by
  simp [ofCells, Tryd.underlying3, sz3]
theorem idx_ints (a : List Nat) (i : Nat) (hi : i < a.length) {e : Nat} {K : AV → Prop} (hK : K (.eptr [.v (.int .i64 a[i])])) : awpIdx (some (e, 1)) (.sl 1 (a.map encI)) (.v (.int .i64 i)) K := by
  refine idx_intro (xs := a.map encI) (by simp [asSl]) (by simp; omega) (fun x hx => ?_)
  have hx' : x = encI a[i] := by simp [hi] at hx; exact hx.symm
  subst hx'; exact hK
theorem cv35_3 (n : Int) (s' s : Slots) (K : AV → Slots → Prop) : awpCvX Tryd.prog 35 3 (.v (.int .u16 n), s') (.v (.int .u16 n)) (.v (.int .u16 n)) s K = K (.v (.int .i64 (IntKind.i64.wrap n))) s := cvi Tryd.underlying35 Tryd.underlying3 n s' s K

def tornSpec : Vm.Spec := fun args h Q => ∃ (l : List (List UInt8)) (a : Nat), l.length ≤ maxLen ∧ a < 65536 ∧ args = [.sl 1 (l.map encL), .v (.int .u16 a)] ∧ Q (.v (.bool true)) h

set_option maxHeartbeats 1600000 in
theorem does_torn : Does Tryd.prog 5 tornSpec := by
  refine does_of_awp good17 Tryd.func5 rfl (by decide +kernel) (by decide +kernel) ?_
  rintro args h Q ⟨l, a, hl, ha, rfl, hq⟩
  refine ⟨by simp [Tryd.f5], ?_⟩
  rw [awpFunc_some (by rfl)]
  simp -dsimp only [Vm.E, List.lookup, Nat.reduceAdd, Nat.reduceBEq, Tryd.underlying22]
  refine call_one (S := fewSpec) rfl _ GaL.rfl ⟨l, hl, rfl, ?_⟩
  cases hf : fewOf l
  · simp -dsimp only [Vm.E, List.lookup, Nat.reduceAdd, Nat.reduceBEq, Tryd.underlying22, Bool.not_false]
    refine call_one (S := trueSpec) rfl _ GaL.rfl ⟨rfl, ?_⟩
    simp -dsimp only [Vm.E, List.lookup, Nat.reduceAdd, Nat.reduceBEq, Tryd.results5]
    exact hq
  · obtain ⟨hf1, hf2, hf3⟩ := few_spec hf
    have hend := end_eq l
    simp -dsimp only [Vm.E, List.lookup, Nat.reduceAdd, Nat.reduceBEq, Tryd.underlying22, Tryd.underlying27, Bool.not_true]
    refine awp_loop (fun n s h' => ∃ i : Nat, i + n = l.length ∧ h' = h ∧ s = mk [(0, .sl 1 (l.map encL)), (1, .v (.int .u16 a)), (5, .sl 1 ((pieces (l.take i)).map encB)), (6, .own true 3 1 (((endsOf l).take i).map encI)), (19, .sl 1 (l.map encL)), (20, .v (.int .i64 l.length)), (21, .v (.int .i64 i))])
      l.length _ (le_mk _ ?_) ⟨0, by omega, rfl, rfl⟩ ?_
    · simp only [List.forall_mem_cons, List.not_mem_nil, false_imp_iff, implies_true, and_true]
      simp -dsimp only [Vm.E, List.lookup, Nat.reduceAdd, Nat.reduceBEq, init_get]
      exact ⟨.refl _, .refl _, .nils _, .nil _ _ _ (by decide), .refl _, .refl _, .refl _⟩
    · rintro n s h' ⟨i, hi, rfl, rfl⟩
      have hle := end_take l i
      have hpl := pieces_len (l.take i)
      simp -dsimp only [Vm.E, List.lookup, Nat.reduceAdd, Nat.reduceBEq]
      refine cond_intro (fun hc => ?_) (fun hc => ?_)
      · have hlt : i < l.length := by have := of_decide_eq_true hc; omega
        have hbi := hf2 l[i] (List.getElem_mem hlt)
        have htk : l.take (i + 1) = l.take i ++ [l[i]] := List.take_succ_eq_append_getElem hlt
        have hpl1 := pieces_len (l.take (i + 1))
        simp -dsimp only [Vm.E, List.lookup, Nat.reduceAdd, Nat.reduceBEq, es27, as27]
        refine idx_list l i hlt ?_
        simp -dsimp only [Vm.E, List.lookup, Nat.reduceAdd, Nat.reduceBEq, of22]
        refine call_one (S := appendSpec) rfl _ GaL.rfl ⟨pieces (l.take i), l[i], by omega, rfl, ?_⟩
        rw [if_neg (by omega), ← pieces_snoc, ← htk]
        simp -dsimp only [Vm.E, List.lookup, Nat.reduceAdd, Nat.reduceBEq, ext_0, ext_1, Tryd.underlying22, es36]
        refine bs_intro zr3 (by decide) (by decide) rfl rfl (by simp [solid, AV.cells]) ?_
        simp -dsimp only [Vm.E, List.lookup, Nat.reduceAdd, Nat.reduceBEq, append_own ei36]
        refine app_sl Tryd.underlying36 (by simp [AV.cells]) ?_ ?_
        · have : ((endsOf l).take i).length ≤ 40 := by simp [endsOf_len]; omega
          simp only [List.length_map, List.length_cons, List.length_nil]; omega
        simp -dsimp only [Vm.E, List.lookup, Nat.reduceAdd, Nat.reduceBEq]
        refine kept_intro ⟨l.length - (i + 1), by omega, _, le_mk [(0, .sl 1 (l.map encL)), (1, .v (.int .u16 a)), (5, .sl 1 ((pieces (l.take (i + 1))).map encB)), (6, .own true 3 1 (((endsOf l).take (i + 1)).map encI)), (19, .sl 1 (l.map encL)), (20, .v (.int .i64 l.length)), (21, .v (.int .i64 (i + 1 : Nat)))] ?_, i + 1, by omega, rfl, rfl⟩
        simp only [List.forall_mem_cons, List.not_mem_nil, false_imp_iff, implies_true, and_true]
        simp -dsimp only [Vm.E, List.lookup, Nat.reduceAdd, Nat.reduceBEq]
        have e1 : ((endsOf l).take i).map encI ++ [AV.v (.int .i64 ((pieces (l.take (i + 1))).length : Int))] = ((endsOf l).take (i + 1)).map encI := by rw [endsOf_take l i hlt, hpl1]; simp [encI]
        rw [e1, wrap_i64 (by omega) (by omega)]
        exact ⟨.refl _, .refl _, .refl _, .refl _, .refl _, .refl _, .refl _⟩
      · have hge : ¬ i < l.length := by have := of_decide_eq_false hc; omega
        rw [List.take_of_length_le (by omega)] at hle hpl ⊢
        rw [List.take_of_length_le (by rw [endsOf_len]; omega)]
        simp -dsimp only [Vm.E, List.lookup, Nat.reduceAdd, Nat.reduceBEq, Tryd.underlying22, cv35_3]
        rw [wrap_i64 (n := (a : Int)) (by omega) (by omega), wrap_i64 (n := ((pieces l).length : Int) + 1) (by omega) (by omega)]
        refine rem_intro (by omega) ?_
        have hmod : Int.tmod (a : Int) (((pieces l).length : Int) + 1) = ((a % ((pieces l).length + 1) : Nat) : Int) := by
          rw [Int.tmod_eq_emod_of_nonneg (by omega)]; rfl
        rw [hmod]
        have hcut : a % ((pieces l).length + 1) < (pieces l).length + 1 := Nat.mod_lt _ (by omega)
        generalize a % ((pieces l).length + 1) = cut at hcut ⊢
        simp -dsimp only [Vm.E, List.lookup, Nat.reduceAdd, Nat.reduceBEq, Tryd.underlying36]
        have hel := endsOf_len l
        have hwl := wholes_le l cut
        have hplt : (pieces l).length ≤ 7000 := by omega
        refine awp_loop (fun n s h2 => ∃ i : Nat, i + n = l.length ∧ h2 = h' ∧ s = mk [(0, .sl 1 (l.map encL)), (5, .sl 1 ((pieces l).map encB)), (6, .own true 3 1 ((endsOf l).map encI)), (9, .v (.int .i64 cut)), (10, .v (.int .i64 (min i (wholes l cut) : Nat))), (43, .alias 6), (44, .v (.int .i64 l.length)), (45, .v (.int .i64 i))])
          l.length _ (le_mk _ ?_) ⟨0, by omega, rfl, rfl⟩ ?_
        · simp only [List.forall_mem_cons, List.not_mem_nil, false_imp_iff, implies_true, and_true]
          simp -dsimp only [Vm.E, List.lookup, Nat.reduceAdd, Nat.reduceBEq, hel, Nat.zero_min]
          exact ⟨.refl _, .refl _, .refl _, .refl _, .refl _, .refl _, .refl _, .refl _⟩
        · rintro n s h2 ⟨i, hi, rfl, rfl⟩
          simp -dsimp only [Vm.E, List.lookup, Nat.reduceAdd, Nat.reduceBEq]
          refine cond_intro (fun hc => ?_) (fun hc => ?_)
          · have hlt : i < l.length := by have := of_decide_eq_true hc; omega
            have hwi := whole_iff l cut i hlt
            have hget := endsOf_get l i (by omega)
            simp -dsimp only [Vm.E, List.lookup, Nat.reduceAdd, Nat.reduceBEq, es36, as36]
            refine idxO_intro (by omega) (by simp; omega) ?_
            simp -dsimp only [Vm.E, List.lookup, Nat.reduceAdd, Nat.reduceBEq]
            refine eltA_intro (x := encI (endOf (l.take (i + 1)))) (by rw [Int.toNat_natCast, List.getElem?_map, List.getElem?_eq_getElem (by omega), hget]; rfl) ?_
            simp -dsimp only [Vm.E, List.lookup, Nat.reduceAdd, Nat.reduceBEq, encI, of3]
            refine cond_intro (fun hd => ?_) (fun hd => ?_)
            · have hd' : i < wholes l cut := hwi.1 (by have := of_decide_eq_true hd; omega)
              simp -dsimp only [Vm.E, List.lookup, Nat.reduceAdd, Nat.reduceBEq]
              refine kept_intro ⟨l.length - (i + 1), by omega, _, le_mk [(0, .sl 1 (l.map encL)), (5, .sl 1 ((pieces l).map encB)), (6, .own true 3 1 ((endsOf l).map encI)), (9, .v (.int .i64 cut)), (10, .v (.int .i64 (min (i + 1) (wholes l cut) : Nat))), (43, .alias 6), (44, .v (.int .i64 l.length)), (45, .v (.int .i64 (i + 1 : Nat)))] ?_, i + 1, by omega, rfl, rfl⟩
              simp only [List.forall_mem_cons, List.not_mem_nil, false_imp_iff, implies_true, and_true]
              simp -dsimp only [Vm.E, List.lookup, Nat.reduceAdd, Nat.reduceBEq]
              rw [wrap_i64 (by omega) (by omega), wrap_i64 (by omega) (by omega), show ((min i (wholes l cut) : Nat) : Int) + 1 = ((min (i + 1) (wholes l cut) : Nat) : Int) by omega]
              exact ⟨.refl _, .refl _, .refl _, .refl _, .refl _, .refl _, .refl _, .refl _⟩
            · have hd' : ¬ i < wholes l cut := fun h => by have := hwi.2 h; have := of_decide_eq_false hd; omega
              simp -dsimp only [Vm.E, List.lookup, Nat.reduceAdd, Nat.reduceBEq]
              refine kept_intro ⟨l.length - (i + 1), by omega, _, le_mk [(0, .sl 1 (l.map encL)), (5, .sl 1 ((pieces l).map encB)), (6, .own true 3 1 ((endsOf l).map encI)), (9, .v (.int .i64 cut)), (10, .v (.int .i64 (min (i + 1) (wholes l cut) : Nat))), (43, .alias 6), (44, .v (.int .i64 l.length)), (45, .v (.int .i64 (i + 1 : Nat)))] ?_, i + 1, by omega, rfl, rfl⟩
              simp only [List.forall_mem_cons, List.not_mem_nil, false_imp_iff, implies_true, and_true]
              simp -dsimp only [Vm.E, List.lookup, Nat.reduceAdd, Nat.reduceBEq]
              rw [wrap_i64 (by omega) (by omega), show (min i (wholes l cut) : Nat) = min (i + 1) (wholes l cut) by omega]
              exact ⟨.refl _, .refl _, .refl _, .refl _, .refl _, .refl _, .refl _, .refl _⟩
          · have hge : ¬ i < l.length := by have := of_decide_eq_false hc; omega
            have hwm : min i (wholes l cut) = wholes l cut := by omega
            rw [hwm]
            simp -dsimp only [Vm.E, List.lookup, Nat.reduceAdd, Nat.reduceBEq]
            refine slice_h es22 (by omega) (by simp; omega) ?_
            have e1 : ((pieces l).map encB).take ((cut : Nat) : Int).toNat = ((pieces l).take cut).map encB := by rw [Int.toNat_natCast, ← List.map_take]
            rw [e1]
            simp -dsimp only [Vm.E, List.lookup, Nat.reduceAdd, Nat.reduceBEq]
            refine call_one (S := readSpec) rfl _ GaL.rfl ⟨(pieces l).take cut, by simp; omega, rfl, ?_⟩
            rw [readOf_torn l cut (fun b hb => by have := hf2 b hb; omega) (by omega)]
            have hlen : (l.take (wholes l cut)).length = wholes l cut := by simp; omega
            have dn : ∀ n : Int, (n == n) = true := fun n => by simp
            have dl : ∀ l : List (List UInt8), (l == l) = true := fun l => by simp
            simp -dsimp only [Vm.E, List.lookup, Nat.reduceAdd, Nat.reduceBEq, ext_0, ext_1, Tryd.underlying27, hlen, dn]
            refine slice_h es27 (by omega) (by simp; omega) ?_
            have e2 : (l.map encL).take ((wholes l cut : Nat) : Int).toNat = (l.take (wholes l cut)).map encL := by rw [Int.toNat_natCast, ← List.map_take]
            rw [e2]
            simp -dsimp only [Vm.E, List.lookup, Nat.reduceAdd, Nat.reduceBEq]
            refine call_one (S := bytesSpec) rfl _ GaL.rfl ⟨_, _, by unfold maxLen; omega, rfl, ?_⟩
            simp -dsimp only [Vm.E, List.lookup, Nat.reduceAdd, Nat.reduceBEq, dl]
            refine call_one (S := trueSpec) rfl _ GaL.rfl ⟨rfl, ?_⟩
            simp -dsimp only [Vm.E, List.lookup, Nat.reduceAdd, Nat.reduceBEq, Tryd.results5]
            exact hq

end Go.Proofs
