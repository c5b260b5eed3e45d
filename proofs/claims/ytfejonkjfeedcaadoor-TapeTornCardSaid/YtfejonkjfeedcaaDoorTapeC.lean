/- Numbers as bytes. -/
import Derived.Test.YtfejonkjfeedcaaDoorTapeB
set_option linter.unusedSimpArgs false
set_option linter.unusedVariables false
namespace Go.Proofs
open Go.Vm
attribute [local irreducible] awpMake awpAppend awpCvX awpStrOf awpBinX awpSlice awpBS awpStore awpAlloc awpCopy awpIndex awpDraw awpIdxX awpFa awpField

def powSpec : Vm.Spec := fun args h Q => ∃ k : Nat, k ≤ 7 ∧ args = [.v (.int .i64 k)] ∧ Q (.v (.int .i64 (256 ^ k : Nat))) h

theorem pow_le {i : Nat} (h : i ≤ 7) : 256 ^ i ≤ 256 ^ 7 := Nat.pow_le_pow_right (by decide) h

theorem does_pow : Does Tryd.prog 61 powSpec := by
  refine does_of_awp good0 Tryd.func61 rfl (by decide +kernel) (by decide +kernel) ?_
  rintro args h Q ⟨k, hk, rfl, hq⟩
  refine ⟨by simp [Tryd.f61], ?_⟩
  rw [awpFunc_some (by rfl)]
  simp -dsimp only [Vm.E, List.lookup, Nat.reduceAdd, Nat.reduceBEq]
  refine awp_loop (fun n s h' => ∃ i : Nat, i + n = k ∧ h' = h ∧ s = mk [(0, .v (.int .i64 k)), (3, .v (.int .i64 (256 ^ i : Nat))), (4, .v (.int .i64 i))])
    k _ (le_mk _ ?_) ⟨0, by omega, rfl, rfl⟩ ?_
  · simp [init_get]
  · rintro n s h' ⟨i, hi, rfl, rfl⟩
    simp -dsimp only [Vm.E, List.lookup, Nat.reduceAdd, Nat.reduceBEq]
    refine cond_intro (fun hc => ?_) (fun hc => ?_)
    · have hlt : i < k := by have := of_decide_eq_true hc; omega
      simp -dsimp only [Vm.E, List.lookup, Nat.reduceAdd, Nat.reduceBEq]
      refine kept_intro ⟨k - (i + 1), by omega, _, le_mk [(0, .v (.int .i64 k)), (3, .v (.int .i64 (256 ^ (i + 1) : Nat))), (4, .v (.int .i64 (i + 1 : Nat)))] ?_, i + 1, by omega, rfl, rfl⟩
      simp only [List.forall_mem_cons, List.not_mem_nil, false_imp_iff, implies_true, and_true]
      simp -dsimp only [Vm.E, List.lookup, Nat.reduceAdd, Nat.reduceBEq]
      have e : (((256 ^ i : Nat) : Int) * 256) = ((256 ^ (i + 1) : Nat) : Int) := by rw [Nat.pow_succ]; simp
      have hp := pow_le (show i + 1 ≤ 7 by omega)
      have hp2 : (256 : Nat) ^ 7 = 72057594037927936 := by decide
      generalize hgg : 256 ^ (i + 1) = pw at hp
      rw [e, hgg, wrap_i64 (by omega) (by omega), wrap_i64 (by omega) (by omega)]
      exact ⟨.refl _, .refl _, .refl _⟩
    · have hge : ¬ i < k := by have := of_decide_eq_false hc; omega
      simp -dsimp only [Vm.E, List.lookup, Nat.reduceAdd, Nat.reduceBEq, Tryd.results61]
      have : i = k := by omega
      subst this
      exact hq

def T5 : Tab := ext T4 61 powSpec
theorem good5 : Good T5 := good_ext good4 does_pow

theorem does_refRight : Does Tryd.prog 48 rightSpec := by
  refine does_of_awp good5 Tryd.func48 rfl (by decide +kernel) (by decide +kernel) ?_
  rintro args h Q ⟨n, size, hn0, hn1, rfl, hq⟩
  refine ⟨by simp [Tryd.f48], ?_⟩
  rw [awpFunc_some (by rfl)]
  unfold fits at hq
  simp -dsimp only [Vm.E, List.lookup, Nat.reduceAdd, Nat.reduceBEq]
  cases h8 : (size == 8)
  · simp -dsimp only [Vm.E, List.lookup, Nat.reduceAdd, Nat.reduceBEq, h8]
    refine call_one (S := sizedSpec) rfl _ GaL.rfl ⟨_, rfl, ?_⟩
    simp -dsimp only [Vm.E, List.lookup, Nat.reduceAdd, Nat.reduceBEq]
    cases hs : sized size
    · simp -dsimp only [Vm.E, List.lookup, Nat.reduceAdd, Nat.reduceBEq, Tryd.results48]
      simpa [h8, hs] using hq
    · simp -dsimp only [Vm.E, List.lookup, Nat.reduceAdd, Nat.reduceBEq]
      cases h0 : decide (n ≥ 0)
      · simp -dsimp only [Vm.E, List.lookup, Nat.reduceAdd, Nat.reduceBEq, Tryd.results48]
        have : ¬ 0 ≤ n := by have := of_decide_eq_false h0; omega
        simpa [h8, hs, this] using hq
      · have h0' : 0 ≤ n := by have := of_decide_eq_true h0; omega
        simp -dsimp only [Vm.E, List.lookup, Nat.reduceAdd, Nat.reduceBEq]
        have hk : ∃ k : Nat, k ≤ 7 ∧ size = k ∧ size.toNat = k := by
          rcases sized_cases hs with rfl | rfl | rfl | rfl
          · exact ⟨1, by decide, rfl, rfl⟩
          · exact ⟨2, by decide, rfl, rfl⟩
          · exact ⟨4, by decide, rfl, rfl⟩
          · cases h8
        obtain ⟨k, hk7, hk, hk2⟩ := hk
        refine call_one (S := powSpec) rfl _ (GaL.cons (.refl _) .nil) ⟨k, hk7, by rw [hk], ?_⟩
        simp -dsimp only [Vm.E, List.lookup, Nat.reduceAdd, Nat.reduceBEq, Tryd.results48]
        have e : ((256 : Int) ^ k) = ((256 ^ k : Nat) : Int) := by simp
        rw [hk2, e] at hq
        simpa [h8, hs, h0'] using hq
  · simp -dsimp only [Vm.E, List.lookup, Nat.reduceAdd, Nat.reduceBEq, h8, Tryd.results48]
    simpa [h8] using hq

/-- A number's last bytes, the greatest first. -/
def byteOf (n : Int) (j : Nat) : UInt8 := UInt8.ofNat ((n / 2 ^ (8 * j)) % 256).toNat
def be (size : Nat) (n : Int) : List UInt8 := (List.range size).map fun i => byteOf n (size - 1 - i)

theorem byteOf_nat (n : Int) (j : Nat) : ((byteOf n j).toNat : Int) = (n / 2 ^ (8 * j)) % 256 := by
  unfold byteOf
  have h0 := Int.emod_nonneg (n / 2 ^ (8 * j)) (show (256 : Int) ≠ 0 by decide)
  have h1 := Int.emod_lt_of_pos (n / 2 ^ (8 * j)) (show (0 : Int) < 256 by decide)
  rw [UInt8.toNat_ofNat']
  omega

theorem wrap_u8_mod (n : Int) : IntKind.u8.wrap n = n % 256 := by simp [IntKind.wrap, IntKind.bits, IntKind.signed]
theorem wrap_u64_mod (n : Int) : IntKind.u64.wrap n = n % 18446744073709551616 := by simp [IntKind.wrap, IntKind.bits, IntKind.signed]

theorem byte_put (n : Int) (j : Nat) (hj : j ≤ 7) : IntKind.u8.wrap ((IntKind.u64.wrap n).fdiv (2 ^ min (((8 * j : Nat) : Int)).toNat IntKind.u64.bits)) = ((byteOf n j).toNat : Int) := by
  rw [byteOf_nat, wrap_u8_mod, wrap_u64_mod, Int.toNat_natCast]
  have hm : min (8 * j) IntKind.u64.bits = 8 * j := by simp [IntKind.bits]; omega
  rw [hm]
  have : j = 0 ∨ j = 1 ∨ j = 2 ∨ j = 3 ∨ j = 4 ∨ j = 5 ∨ j = 6 ∨ j = 7 := by omega
  rcases this with rfl | rfl | rfl | rfl | rfl | rfl | rfl | rfl <;>
    (rw [Int.fdiv_eq_ediv_of_nonneg _ (by decide)]; simp only [Nat.reduceMul, Int.reducePow]; omega)
theorem byte_refPut (n : Int) (j : Nat) (hj : j ≤ 7) : IntKind.u8.wrap (n.fdiv (2 ^ min (((8 * j : Nat) : Int)).toNat IntKind.i64.bits)) = ((byteOf n j).toNat : Int) := by
  rw [byteOf_nat, wrap_u8_mod, Int.toNat_natCast]
  have hm : min (8 * j) IntKind.i64.bits = 8 * j := by simp [IntKind.bits]; omega
  rw [hm, Int.fdiv_eq_ediv_of_nonneg _ (by have e : (2 : Int) ^ (8 * j) = ((2 ^ (8 * j) : Nat) : Int) := by simp
                                           rw [e]; exact Int.natCast_nonneg _)]

theorem be_take {size : Nat} {n : Int} {k : Nat} (hk : k < size) : (be size n).take (k + 1) = (be size n).take k ++ [byteOf n (size - 1 - k)] := by
  rw [List.take_succ_eq_append_getElem (by simp [be]; exact hk)]
  simp [be]

def putOf (l : List UInt8) (n size : Int) : List UInt8 := if fits n size then l ++ be size.toNat n else l
def putSpec : Vm.Spec := fun args h Q => ∃ (l : List UInt8) (n size : Int), l.length + 8 ≤ 70368744177664 ∧ -9223372036854775808 ≤ n ∧ n ≤ 9223372036854775807 ∧
  args = [.sl 1 (l.map encB), .v (.int .i64 n), .v (.int .i64 size)] ∧ Q (.own true 5 1 ((putOf l n size).map encB)) h

theorem fits_sized {n size : Int} (h : fits n size = true) : sized size = true := by
  simp only [fits, Bool.or_eq_true, Bool.and_eq_true] at h
  rcases h with h | h
  · simp [sized, h]
  · exact h.1.1

theorem encs (l : List UInt8) (b : UInt8) : l.map encB ++ [encB b] = (l ++ [b]).map encB := by simp

def T6 : Tab := ext T5 46 rightSpec
theorem good6 : Good T6 := good_ext good5 does_right

theorem plain0 : plain (Value.int IntKind.u8 0) = true ∨ ∃ cs, Value.int IntKind.u8 0 = Value.agg cs ∧ cs.all plain = true := .inl rfl
theorem mk22 (n : Nat) (KK : AV → Prop) (hn : n + 8 ≤ 70368744177664) (hk : KK (.own true 5 1 (List.replicate n (.v (.int .u8 0))))) : awpMake Tryd.prog 22 (.v (.int .i64 n)) (.v (.int .i64 ((n + 8 : Nat) : Int))) KK := by
  have h1 : (n : Int) ≤ ((n + 8 : Nat) : Int) := by omega
  have h2 : ((n + 8 : Nat) : Int) ≤ 9223372036854775807 := by omega
  have h3 : ((n + 8 : Nat) : Int) * ((1 : Nat) : Int) ≤ 140737488355328 := by omega
  have a3 := @make_intro Tryd.prog 22 5 1 1 .i64 .i64 (n : Int) ((n + 8 : Nat) : Int) (.int .u8 0) KK ei22 z5 plain0 (Int.natCast_nonneg n) h1 h2 h3
  rw [Int.toNat_natCast, cst_int] at a3
  exact a3 hk

theorem does_put : Does Tryd.prog 32 putSpec := by
  refine does_of_awp good6 Tryd.func32 rfl (by decide +kernel) (by decide +kernel) ?_
  rintro args h Q ⟨l, n, size, hl, hn0, hn1, rfl, hq⟩
  refine ⟨by simp [Tryd.f32], ?_⟩
  rw [awpFunc_some (by rfl)]
  simp -dsimp only [Vm.E, List.lookup, Nat.reduceAdd, Nat.reduceBEq, Tryd.underlying22]
  have e8 : IntKind.i64.wrap ((l.length : Int) + 8) = ((l.length + 8 : Nat) : Int) := by rw [wrap_i64 (by omega) (by omega)]; simp
  rw [e8]
  refine mk22 l.length _ hl ?_
  simp -dsimp only [Vm.E, List.lookup, Nat.reduceAdd, Nat.reduceBEq, awpCopy_some es22]
  have e9 : (l.map encB).take (List.replicate l.length (AV.v (.int .u8 0))).length ++ (List.replicate l.length (AV.v (.int .u8 0))).drop l.length = l.map encB := by
    rw [List.length_replicate, List.take_of_length_le (by simp), List.drop_eq_nil_of_le (by simp), List.append_nil]
  rw [e9]
  refine call_one (S := rightSpec) rfl _ GaL.rfl ⟨n, size, hn0, hn1, rfl, ?_⟩
  simp -dsimp only [Vm.E, List.lookup, Nat.reduceAdd, Nat.reduceBEq]
  unfold putOf at hq
  cases hf : fits n size
  · simp -dsimp only [Vm.E, List.lookup, Nat.reduceAdd, Nat.reduceBEq, Bool.not_false, Tryd.results32]
    simpa [hf] using hq
  · have hk : ∃ k : Nat, k ≤ 8 ∧ 1 ≤ k ∧ size = k ∧ size.toNat = k := by
      rcases sized_cases (fits_sized hf) with rfl | rfl | rfl | rfl
      · exact ⟨1, by decide, by decide, rfl, rfl⟩
      · exact ⟨2, by decide, by decide, rfl, rfl⟩
      · exact ⟨4, by decide, by decide, rfl, rfl⟩
      · exact ⟨8, by decide, by decide, rfl, rfl⟩
    obtain ⟨k, hk8, hk1, rfl, hk2⟩ := hk
    rw [hf, if_pos rfl, hk2] at hq
    simp -dsimp only [Vm.E, List.lookup, Nat.reduceAdd, Nat.reduceBEq, Bool.not_true]
    have e1 : IntKind.i64.wrap (8 * IntKind.i64.wrap ((k : Int) - 1)) = 8 * ((k : Int) - 1 - 0) := by
      rw [wrap_i64 (n := (k : Int) - 1) (by omega) (by omega), wrap_i64 (by omega) (by omega)]; omega
    rw [e1]
    refine awp_loop (fun m s h' => ∃ i : Nat, i + m = k ∧ h' = h ∧ s = mk [(1, .v (.int .i64 n)), (7, .own true 5 1 ((l ++ (be k n).take i).map encB)), (8, .v (.int .i64 (8 * ((k : Int) - 1 - i))))])
      k _ (le_mk _ ?_) ⟨0, by omega, rfl, rfl⟩ ?_
    · simp [init_get]
    · rintro m s h' ⟨i, hi, rfl, rfl⟩
      simp -dsimp only [Vm.E, List.lookup, Nat.reduceAdd, Nat.reduceBEq]
      refine cond_intro (fun hc => ?_) (fun hc => ?_)
      · have hlt : i < k := by have := of_decide_eq_true hc; omega
        have ej : 8 * ((k : Int) - 1 - i) = ((8 * (k - 1 - i) : Nat) : Int) := by omega
        simp -dsimp only [Vm.E, List.lookup, Nat.reduceAdd, Nat.reduceBEq, cv3_79]
        refine shr_intro (by omega) ?_
        rw [ej]
        simp -dsimp only [Vm.E, List.lookup, Nat.reduceAdd, Nat.reduceBEq, cv79_5, byte_put n (k - 1 - i) (by omega), es22]
        refine bs_intro zr5 (by decide) (by decide) rfl rfl (by simp [solid, AV.cells]) ?_
        simp -dsimp only [Vm.E, List.lookup, Nat.reduceAdd, Nat.reduceBEq, append_own ei22]
        refine app_sl Tryd.underlying22 (by simp [AV.cells]) ?_ ?_
        · have : ((be k n).take i).length ≤ i := by simp only [List.length_take]; omega
          simp only [List.length_map, List.length_append, List.length_cons, List.length_nil]
          omega
        simp -dsimp only [Vm.E, List.lookup, Nat.reduceAdd, Nat.reduceBEq]
        refine kept_intro ⟨k - (i + 1), by omega, _, le_mk [(1, .v (.int .i64 n)), (7, .own true 5 1 ((l ++ (be k n).take (i + 1)).map encB)), (8, .v (.int .i64 (8 * ((k : Int) - 1 - (i + 1 : Nat)))))] ?_, i + 1, by omega, rfl, rfl⟩
        simp only [List.forall_mem_cons, List.not_mem_nil, false_imp_iff, implies_true, and_true]
        simp -dsimp only [Vm.E, List.lookup, Nat.reduceAdd, Nat.reduceBEq]
        rw [wrap_i64 (by omega) (by omega), be_take hlt]
        have e2 : ((8 * (k - 1 - i) : Nat) : Int) - 8 = 8 * ((k : Int) - 1 - (i + 1 : Nat)) := by omega
        rw [e2]
        have e3 : (l ++ (be k n).take i).map encB ++ [AV.v (.int .u8 ((byteOf n (k - 1 - i)).toNat : Int))] = (l ++ ((be k n).take i ++ [byteOf n (k - 1 - i)])).map encB := by simp [encB]
        rw [e3]
        exact ⟨.refl _, .refl _, .refl _⟩
      · have hge : ¬ i < k := by have := of_decide_eq_false hc; omega
        simp -dsimp only [Vm.E, List.lookup, Nat.reduceAdd, Nat.reduceBEq, Tryd.results32]
        have : i = k := by omega
        subst this
        rw [List.take_of_length_le (by simp [be])]
        exact hq

end Go.Proofs
