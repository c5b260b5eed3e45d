/- The reference's numbers as bytes; pieces. -/
import Derived.Test.YtfejonkjfeedcaaDoorTapeC
set_option linter.unusedSimpArgs false
set_option linter.unusedVariables false
namespace Go.Proofs
open Go.Vm
attribute [local irreducible] awpMake awpAppend awpCvX awpStrOf awpBinX awpSlice awpBS awpStore awpAlloc awpCopy awpIndex awpDraw awpIdxX awpFa awpField

def T7 : Tab := ext T6 48 rightSpec
theorem good7 : Good T7 := good_ext good6 does_refRight

theorem does_refPut : Does Tryd.prog 34 putSpec := by
  refine does_of_awp good7 Tryd.func34 rfl (by decide +kernel) (by decide +kernel) ?_
  rintro args h Q ⟨l, n, size, hl, hn0, hn1, rfl, hq⟩
  refine ⟨by simp [Tryd.f34], ?_⟩
  rw [awpFunc_some (by rfl)]
  simp -dsimp only [Vm.E, List.lookup, Nat.reduceAdd, Nat.reduceBEq, Tryd.underlying22, append_nil ei22]
  refine app_sl Tryd.underlying22 (fun c hc => by obtain ⟨y, -, rfl⟩ := List.mem_map.1 hc; rfl) ?_ ?_
  · simp only [List.length_map, List.length_nil]; omega
  simp -dsimp only [Vm.E, List.lookup, Nat.reduceAdd, Nat.reduceBEq]
  refine call_one (S := rightSpec) rfl _ GaL.rfl ⟨n, size, hn0, hn1, rfl, ?_⟩
  simp -dsimp only [Vm.E, List.lookup, Nat.reduceAdd, Nat.reduceBEq]
  unfold putOf at hq
  cases hf : fits n size
  · simp -dsimp only [Vm.E, List.lookup, Nat.reduceAdd, Nat.reduceBEq, Bool.not_false, Tryd.results34]
    simpa [hf] using hq
  · have hk : ∃ k : Nat, k ≤ 8 ∧ 1 ≤ k ∧ size = k ∧ size.toNat = k := by
      rcases sized_cases (fits_sized hf) with rfl | rfl | rfl | rfl
      · exact ⟨1, by decide, by decide, rfl, rfl⟩
      · exact ⟨2, by decide, by decide, rfl, rfl⟩
      · exact ⟨4, by decide, by decide, rfl, rfl⟩
      · exact ⟨8, by decide, by decide, rfl, rfl⟩
    obtain ⟨k, hk8, hk1, rfl, hk2⟩ := hk
    rw [hf, if_pos rfl, hk2] at hq
    simp -dsimp only [Vm.E, List.lookup, Nat.reduceAdd, Nat.reduceBEq, Bool.not_true]
    have e1 : IntKind.i64.wrap ((k : Int) - 1) = (k : Int) - 1 - 0 := by
      rw [wrap_i64 (by omega) (by omega)]; omega
    rw [e1]
    refine awp_loop (fun m s h' => ∃ i : Nat, i + m = k ∧ h' = h ∧ s = mk [(1, .v (.int .i64 n)), (7, .own true 5 1 ((l ++ (be k n).take i).map encB)), (8, .v (.int .i64 ((k : Int) - 1 - i)))])
      k _ (le_mk _ ?_) ⟨0, by omega, rfl, rfl⟩ ?_
    · simp [init_get]
    · rintro m s h' ⟨i, hi, rfl, rfl⟩
      simp -dsimp only [Vm.E, List.lookup, Nat.reduceAdd, Nat.reduceBEq]
      refine cond_intro (fun hc => ?_) (fun hc => ?_)
      · have hlt : i < k := by have := of_decide_eq_true hc; omega
        have ej : IntKind.i64.wrap (8 * ((k : Int) - 1 - i)) = ((8 * (k - 1 - i) : Nat) : Int) := by rw [wrap_i64 (by omega) (by omega)]; omega
        simp -dsimp only [Vm.E, List.lookup, Nat.reduceAdd, Nat.reduceBEq]
        rw [ej]
        refine shr_intro (by omega) ?_
        simp -dsimp only [Vm.E, List.lookup, Nat.reduceAdd, Nat.reduceBEq, cv3_5, byte_refPut n (k - 1 - i) (by omega), es22]
        refine bs_intro zr5 (by decide) (by decide) rfl rfl (by simp [solid, AV.cells]) ?_
        simp -dsimp only [Vm.E, List.lookup, Nat.reduceAdd, Nat.reduceBEq, append_own ei22]
        refine app_sl Tryd.underlying22 (by simp [AV.cells]) ?_ ?_
        · have : ((be k n).take i).length ≤ i := by simp only [List.length_take]; omega
          simp only [List.length_map, List.length_append, List.length_cons, List.length_nil]
          omega
        simp -dsimp only [Vm.E, List.lookup, Nat.reduceAdd, Nat.reduceBEq]
        refine kept_intro ⟨k - (i + 1), by omega, _, le_mk [(1, .v (.int .i64 n)), (7, .own true 5 1 ((l ++ (be k n).take (i + 1)).map encB)), (8, .v (.int .i64 ((k : Int) - 1 - (i + 1 : Nat))))] ?_, i + 1, by omega, rfl, rfl⟩
        simp only [List.forall_mem_cons, List.not_mem_nil, false_imp_iff, implies_true, and_true]
        simp -dsimp only [Vm.E, List.lookup, Nat.reduceAdd, Nat.reduceBEq]
        rw [wrap_i64 (by omega) (by omega), be_take hlt]
        have e2 : (k : Int) - 1 - i - 1 = (k : Int) - 1 - (i + 1 : Nat) := by omega
        rw [e2]
        have e3 : (l ++ (be k n).take i).map encB ++ [AV.v (.int .u8 ((byteOf n (k - 1 - i)).toNat : Int))] = (l ++ ((be k n).take i ++ [byteOf n (k - 1 - i)])).map encB := by simp [encB]
        rw [e3]
        exact ⟨.refl _, .refl _, .refl _⟩
      · have hge : ¬ i < k := by have := of_decide_eq_false hc; omega
        simp -dsimp only [Vm.E, List.lookup, Nat.reduceAdd, Nat.reduceBEq, Tryd.results34]
        have : i = k := by omega
        subst this
        rw [List.take_of_length_le (by simp [be])]
        exact hq

/-! A piece: its size ahead, its sum behind. -/
def pieceOf (l : List UInt8) : List UInt8 :=
  let out := be 2 l.length ++ l
  out ++ be 4 (crcOf out).toNat
def pieceSpec : Vm.Spec := fun args h Q => ∃ l : List UInt8, l.length ≤ 65535 ∧ args = [.sl 1 (l.map encB)] ∧ Q (.own true 5 1 ((pieceOf l).map encB)) h

def T8 : Tab := ext (ext (ext (ext T7 32 putSpec) 34 putSpec) 33 sumSpec) 35 sumSpec
theorem good8 : Good T8 := good_ext (good_ext (good_ext (good_ext good7 does_put) does_refPut) does_sum) does_refSum

theorem fits2 {n : Nat} (h : n ≤ 65535) : fits n 2 = true := by
  simp only [fits, sized]; simp; omega
theorem fits4 (c : BitVec 32) : fits (c.toNat : Int) 4 = true := by
  have := c.isLt
  simp only [fits, sized]; simp; omega

theorem does_sealed : Does Tryd.prog 22 pieceSpec := by
  refine does_of_awp good8 Tryd.func22 rfl (by decide +kernel) (by decide +kernel) ?_
  rintro args h Q ⟨l, hl, rfl, hq⟩
  refine ⟨by simp [Tryd.f22], ?_⟩
  rw [awpFunc_some (by rfl)]
  simp -dsimp only [Vm.E, List.lookup, Nat.reduceAdd, Nat.reduceBEq, Tryd.underlying22]
  refine call_one (S := putSpec) rfl _ (.cons (.nil 1) GaL.rfl) ⟨[], l.length, 2, by simp, by omega, by omega, rfl, ?_⟩
  rw [putOf, fits2 hl, if_pos rfl]
  have hb2 : (be 2 l.length).length = 2 := by simp [be]
  simp -dsimp only [Vm.E, List.lookup, Nat.reduceAdd, Nat.reduceBEq, append_own ei22]
  refine app_sl Tryd.underlying22 (fun c hc => by obtain ⟨y, -, rfl⟩ := List.mem_map.1 hc; rfl) ?_ ?_
  · simp [be]; omega
  simp -dsimp only [Vm.E, List.lookup, Nat.reduceAdd, Nat.reduceBEq]
  have eo : (be (Int.toNat 2) l.length).map encB ++ l.map encB = (be 2 l.length ++ l).map encB := by simp
  rw [eo]
  have hlen : (be 2 l.length ++ l).length = l.length + 2 := by simp [be]; omega
  refine call_one (S := sumSpec) rfl _ GaL.rfl ⟨be 2 l.length ++ l, by rw [hlen]; unfold maxLen; omega, rfl, ?_⟩
  have hc := (crcOf (be 2 l.length ++ l)).isLt
  have ew : IntKind.i64.wrap ((crcOf (be 2 l.length ++ l)).toNat : Int) = ((crcOf (be 2 l.length ++ l)).toNat : Int) := wrap_i64 (by omega) (by omega)
  simp -dsimp only [Vm.E, List.lookup, Nat.reduceAdd, Nat.reduceBEq, cv64_3, ew]
  refine call_one (S := putSpec) rfl _ GaL.rfl ⟨be 2 l.length ++ l, ((crcOf (be 2 l.length ++ l)).toNat : Int), 4, by rw [hlen]; omega, by omega, by omega, rfl, ?_⟩
  rw [putOf, fits4, if_pos rfl]
  simp -dsimp only [Vm.E, List.lookup, Nat.reduceAdd, Nat.reduceBEq, Tryd.results22]
  exact hq

theorem does_piece : Does Tryd.prog 23 pieceSpec := by
  refine does_of_awp good8 Tryd.func23 rfl (by decide +kernel) (by decide +kernel) ?_
  rintro args h Q ⟨l, hl, rfl, hq⟩
  refine ⟨by simp [Tryd.f23], ?_⟩
  rw [awpFunc_some (by rfl)]
  simp -dsimp only [Vm.E, List.lookup, Nat.reduceAdd, Nat.reduceBEq, Tryd.underlying22]
  refine call_one (S := putSpec) rfl _ (.cons (.nil 1) GaL.rfl) ⟨[], l.length, 2, by simp, by omega, by omega, rfl, ?_⟩
  rw [putOf, fits2 hl, if_pos rfl]
  have hb2 : (be 2 l.length).length = 2 := by simp [be]
  simp -dsimp only [Vm.E, List.lookup, Nat.reduceAdd, Nat.reduceBEq, append_own ei22]
  refine app_sl Tryd.underlying22 (fun c hc => by obtain ⟨y, -, rfl⟩ := List.mem_map.1 hc; rfl) ?_ ?_
  · simp [be]; omega
  simp -dsimp only [Vm.E, List.lookup, Nat.reduceAdd, Nat.reduceBEq]
  have eo : (be (Int.toNat 2) l.length).map encB ++ l.map encB = (be 2 l.length ++ l).map encB := by simp
  rw [eo]
  have hlen : (be 2 l.length ++ l).length = l.length + 2 := by simp [be]; omega
  refine call_one (S := sumSpec) rfl _ GaL.rfl ⟨be 2 l.length ++ l, by rw [hlen]; unfold maxLen; omega, rfl, ?_⟩
  have hc := (crcOf (be 2 l.length ++ l)).isLt
  have ew : IntKind.i64.wrap ((crcOf (be 2 l.length ++ l)).toNat : Int) = ((crcOf (be 2 l.length ++ l)).toNat : Int) := wrap_i64 (by omega) (by omega)
  simp -dsimp only [Vm.E, List.lookup, Nat.reduceAdd, Nat.reduceBEq, cv64_3, ew]
  refine call_one (S := putSpec) rfl _ GaL.rfl ⟨be 2 l.length ++ l, ((crcOf (be 2 l.length ++ l)).toNat : Int), 4, by rw [hlen]; omega, by omega, by omega, rfl, ?_⟩
  rw [putOf, fits4, if_pos rfl]
  simp -dsimp only [Vm.E, List.lookup, Nat.reduceAdd, Nat.reduceBEq, Tryd.results23]
  exact hq

end Go.Proofs
