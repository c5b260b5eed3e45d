/- The piece with which a tape begins. -/
import Derived.Test.YtfejonkjfeedcaaDoorTapeH
set_option linter.unusedSimpArgs false
set_option linter.unusedVariables false
namespace Go.Proofs
open Go.Vm
attribute [local irreducible] awpMake awpAppend awpCvX awpStrOf awpBinX awpSlice awpBS awpStore awpAlloc awpCopy awpIndex awpDraw awpIdxX awpFa awpField

theorem get2_lt (l : List UInt8) (h : l.length = 2) : (getOf l).toNat < 65536 := by
  match l, h with
  | [a, b], _ =>
    have ha := a.toNat_lt
    have hb := b.toNat_lt
    simp only [getOf, List.foldl_cons, List.foldl_nil, getStep]
    rw [BitVec.toNat_or]
    refine Nat.or_lt_two_pow (n := 16) ?_ ?_
    · simp [BitVec.toNat_shiftLeft, Nat.shiftLeft_eq]; omega
    · simp; omega
theorem get2_int (l : List UInt8) (h : l.length = 2) : (getOf l).toInt = ((getOf l).toNat : Int) := by
  have := get2_lt l h
  rw [BitVec.toInt_eq_toNat_of_lt (by omega)]

theorem ext_0 (x : AV) (r : List AV) (K : AV → Prop) : awpExt (.tup (x :: r)) 0 K = K (val x) := by simp [awpExt]
theorem ext_1 (x y : AV) (r : List AV) (K : AV → Prop) : awpExt (.tup (x :: y :: r)) 1 K = K (val y) := by simp [awpExt]
theorem ext_2 (x y z : AV) (r : List AV) (K : AV → Prop) : awpExt (.tup (x :: y :: z :: r)) 2 K = K (val z) := by simp [awpExt]

def firstSpec : Vm.Spec := fun args h Q => ∃ r : List UInt8, r.length ≤ 35184372088832 ∧ args = [.sl 1 (r.map encB)] ∧
  (nextP r = none → ∀ x, Q (.tup [x, .v (.bool false)]) h) ∧ ∀ b, nextP r = some b → Q (.tup [.sl 1 (b.map encB), .v (.bool true)]) h

def T12 : Tab := ext (ext T11 50 getSpec) 25 getSpec
theorem good12 : Good T12 := good_ext (good_ext good11 does_get) does_refGet

theorem does_first : Does Tryd.prog 37 firstSpec := by
  refine does_of_awp good12 Tryd.func37 rfl (by decide +kernel) (by decide +kernel) ?_
  rintro args h Q ⟨r, hr, rfl, hno, hyes⟩
  refine ⟨by simp [Tryd.f37], ?_⟩
  rw [awpFunc_some (by rfl)]
  simp -dsimp only [Vm.E, List.lookup, Nat.reduceAdd, Nat.reduceBEq]
  refine call_one (S := getSpec) rfl _ GaL.rfl ⟨r, 0, 2, by omega, by decide, rfl, ?_⟩
  by_cases h2 : r.length < 2
  · have hres : getRes r 0 2 = [.v (.int .i64 0), .v (.int .i64 3)] := by
      unfold getRes
      rw [if_neg (by decide), if_pos (by omega)]
    rw [hres]
    simp -dsimp only [Vm.E, List.lookup, Nat.reduceAdd, Nat.reduceBEq, ext_0, ext_1]
    have hne : ((3 : Int) != 0) = true := by decide
    simp -dsimp only [Vm.E, List.lookup, Nat.reduceAdd, Nat.reduceBEq, hne, Tryd.results37]
    exact hno (by unfold nextP; rw [if_pos h2]) _
  · have hl2 : (r.take 2).length = 2 := by simp; omega
    have hres : getRes r 0 2 = [.v (.int .i64 ((getOf (r.take 2)).toNat : Int)), .v (.int .i64 0)] := by
      unfold getRes
      rw [if_neg (by decide), if_neg (by omega)]
      rw [show (r.drop (0 : Int).toNat).take (2 : Int).toNat = r.take 2 by simp, get2_int _ hl2]
    rw [hres]
    have hlt := get2_lt _ hl2
    have hnp : nextP r = (if r.length < (getOf (r.take 2)).toNat + 6 then none else if pieceOf ((r.drop 2).take (getOf (r.take 2)).toNat) = r.take ((getOf (r.take 2)).toNat + 6) then some ((r.drop 2).take (getOf (r.take 2)).toNat) else none) := by
      unfold nextP; rw [if_neg h2]
    generalize (getOf (r.take 2)).toNat = n at hlt hnp ⊢
    have hne : ((0 : Int) != 0) = false := by decide
    simp -dsimp only [Vm.E, List.lookup, Nat.reduceAdd, Nat.reduceBEq, ext_0, ext_1, hne, Tryd.underlying22]
    rw [wrap_i64 (n := (r.length : Int) - 2) (by omega) (by omega), wrap_i64 (by omega) (by omega)]
    refine cond_intro (fun hc => ?_) (fun hc => ?_)
    · have hgt : r.length < n + 6 := by have := of_decide_eq_true hc; omega
      rw [if_pos hgt] at hnp
      simp -dsimp only [Vm.E, List.lookup, Nat.reduceAdd, Nat.reduceBEq, Tryd.results37]
      exact hno hnp _
    · have hge : ¬ r.length < n + 6 := by have := of_decide_eq_false hc; omega
      rw [if_neg hge] at hnp
      simp -dsimp only [Vm.E, List.lookup, Nat.reduceAdd, Nat.reduceBEq, Tryd.underlying22]
      rw [wrap_i64 (n := 2 + (n : Int)) (by omega) (by omega)]
      refine slice_lh es22 (by omega) (by omega) (by simp; omega) ?_
      have hsl : ((r.map encB).take (2 + (n : Int)).toNat).drop (2 : Int).toNat = ((r.drop 2).take n).map encB := by
        rw [← List.map_take, ← List.map_drop, List.drop_take]
        congr 2
        omega
      rw [hsl]
      have hbl : ((r.drop 2).take n).length = n := by simp; omega
      generalize (r.drop 2).take n = b at hnp hbl
      simp -dsimp only [Vm.E, List.lookup, Nat.reduceAdd, Nat.reduceBEq]
      refine call_one (S := pieceSpec) rfl _ GaL.rfl ⟨b, by omega, rfl, ?_⟩
      simp -dsimp only [Vm.E, List.lookup, Nat.reduceAdd, Nat.reduceBEq]
      refine call_one (S := prefixSpec) rfl _ GaL.rfl ⟨r, pieceOf b, rfl, ?_⟩
      simp -dsimp only [Vm.E, List.lookup, Nat.reduceAdd, Nat.reduceBEq, Tryd.results37]
      have hpre : (pieceOf b).isPrefixOf r = decide (pieceOf b = r.take (n + 6)) := by
        rw [Bool.eq_iff_iff]
        simp only [List.isPrefixOf_iff_prefix, decide_eq_true_eq]
        rw [List.prefix_iff_eq_take, piece_len, hbl]
      rw [hpre]
      by_cases hp : pieceOf b = r.take (n + 6)
      · rw [if_pos hp] at hnp
        simp only [hp, decide_true]
        exact hyes b hnp
      · rw [if_neg hp] at hnp
        simp only [hp, decide_false]
        exact hno hnp _

end Go.Proofs
