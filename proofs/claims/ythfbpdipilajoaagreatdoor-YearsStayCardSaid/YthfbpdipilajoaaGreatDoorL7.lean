/- Numbers are read as they were written. -/
import Derived.Test.YthfbpdipilajoaaGreatDoorL6
set_option linter.unusedSimpArgs false
set_option linter.unusedVariables false
namespace Go.Proofs.Lx
open Go.Vm

theorem getStep_nat (x : BitVec 64) (c : UInt8) (h : x.toNat * 256 + c.toNat < 18446744073709551616) : (getStep x c).toNat = x.toNat * 256 + c.toNat := by
  have hc := c.toNat_lt
  have e1 : (x <<< 8).toNat = x.toNat * 256 := by
    rw [BitVec.toNat_shiftLeft, Nat.shiftLeft_eq]
    have h' : x.toNat * 256 < 18446744073709551616 := Nat.lt_of_le_of_lt (Nat.le_add_right _ _) h
    have e : (2 : Nat) ^ 64 = 18446744073709551616 := by decide
    have e' : (2 : Nat) ^ 8 = 256 := by decide
    rw [e, e']
    exact Nat.mod_eq_of_lt h'
  have e2 : (BitVec.ofNat 64 c.toNat).toNat = c.toNat := by
    rw [BitVec.toNat_ofNat]
    have h' : c.toNat < 18446744073709551616 := Nat.lt_of_le_of_lt (Nat.le_add_left _ _) h
    have e : (2 : Nat) ^ 64 = 18446744073709551616 := by decide
    rw [e]
    exact Nat.mod_eq_of_lt h'
  unfold getStep
  rw [BitVec.toNat_or, e1, e2]
  have := Nat.two_pow_add_eq_or_of_lt (i := 8) (b := c.toNat) (by simpa using hc) x.toNat
  simp only [Nat.reducePow] at this
  rw [Nat.mul_comm]; exact this.symm

theorem byteOf_u (n : Int) (j : Nat) (hj : j ≤ 7) : (byteOf n j).toNat = ((n % 18446744073709551616).toNat / 2 ^ (8 * j)) % 256 := by
  have h := byteOf_nat n j
  have h0 : 0 ≤ n % 18446744073709551616 := Int.emod_nonneg _ (by decide)
  have : j = 0 ∨ j = 1 ∨ j = 2 ∨ j = 3 ∨ j = 4 ∨ j = 5 ∨ j = 6 ∨ j = 7 := by omega
  rcases this with rfl | rfl | rfl | rfl | rfl | rfl | rfl | rfl <;> (simp only [Nat.reduceMul, Nat.reducePow, Int.reducePow] at h ⊢; omega)

theorem getOf_be (n : Int) : (getOf (be 8 n)).toNat = (n % 18446744073709551616).toNat := by
  have hu : (n % 18446744073709551616).toNat < 18446744073709551616 := by
    have := Int.emod_lt_of_pos n (show (0 : Int) < 18446744073709551616 by decide)
    have h0 : 0 ≤ n % 18446744073709551616 := Int.emod_nonneg _ (by decide)
    omega
  have hb : be 8 n = [byteOf n 7, byteOf n 6, byteOf n 5, byteOf n 4, byteOf n 3, byteOf n 2, byteOf n 1, byteOf n 0] := rfl
  have b7 := byteOf_u n 7 (by decide); have b6 := byteOf_u n 6 (by decide); have b5 := byteOf_u n 5 (by decide); have b4 := byteOf_u n 4 (by decide)
  have b3 := byteOf_u n 3 (by decide); have b2 := byteOf_u n 2 (by decide); have b1 := byteOf_u n 1 (by decide); have b0 := byteOf_u n 0 (by decide)
  rw [hb]
  generalize (n % 18446744073709551616).toNat = u at hu b7 b6 b5 b4 b3 b2 b1 b0 ⊢
  simp only [Nat.reduceMul, Nat.reducePow, Nat.div_one] at b7 b6 b5 b4 b3 b2 b1 b0
  simp only [getOf, List.foldl_cons, List.foldl_nil]
  have z : (0#64).toNat = 0 := rfl
  have s1 := getStep_nat 0#64 (byteOf n 7) (by rw [z]; omega)
  have e1 : (getStep 0#64 (byteOf n 7)).toNat = u / 72057594037927936 := by rw [s1, z, b7]; omega
  generalize getStep 0#64 (byteOf n 7) = x1 at e1 ⊢
  have e2 : (getStep x1 (byteOf n 6)).toNat = u / 281474976710656 := by rw [getStep_nat _ _ (by omega), e1, b6]; omega
  generalize getStep x1 (byteOf n 6) = x2 at e2 ⊢
  have e3 : (getStep x2 (byteOf n 5)).toNat = u / 1099511627776 := by rw [getStep_nat _ _ (by omega), e2, b5]; omega
  generalize getStep x2 (byteOf n 5) = x3 at e3 ⊢
  have e4 : (getStep x3 (byteOf n 4)).toNat = u / 4294967296 := by rw [getStep_nat _ _ (by omega), e3, b4]; omega
  generalize getStep x3 (byteOf n 4) = x4 at e4 ⊢
  have e5 : (getStep x4 (byteOf n 3)).toNat = u / 16777216 := by rw [getStep_nat _ _ (by omega), e4, b3]; omega
  generalize getStep x4 (byteOf n 3) = x5 at e5 ⊢
  have e6 : (getStep x5 (byteOf n 2)).toNat = u / 65536 := by rw [getStep_nat _ _ (by omega), e5, b2]; omega
  generalize getStep x5 (byteOf n 2) = x6 at e6 ⊢
  have e7 : (getStep x6 (byteOf n 1)).toNat = u / 256 := by rw [getStep_nat _ _ (by omega), e6, b1]; omega
  generalize getStep x6 (byteOf n 1) = x7 at e7 ⊢
  rw [getStep_nat _ _ (by omega), e7, b0]; omega

theorem num8_be (n : Int) (hn : I64 n) : num8 (be 8 n) 0 = n := by
  unfold I64 at hn
  have h8 : ((be 8 n).drop (8 * 0)).take 8 = be 8 n := by rw [Nat.mul_zero, List.drop_zero, List.take_of_length_le (by rw [be_length]; exact Nat.le_refl _)]
  unfold num8
  rw [h8, BitVec.toInt_eq_toNat_cond, getOf_be]
  have h0 : 0 ≤ n % 18446744073709551616 := Int.emod_nonneg _ (by decide)
  split <;> omega

/-- What stands at a key behind a number's store. -/
theorem readOf_upd (f : Fun) (k k' : List UInt8) (n : Int) (hn : I64 n) : readOf (upd f k (some (be 8 n))) k' = if k' = k then n else readOf f k' := by
  unfold readOf upd
  by_cases h : k' = k
  · simp [h, be_length, num8_be n hn]
  · simp [h]

end Go.Proofs.Lx
