/- The laws TapeTells, TapeBack. -/
import Derived.Test.YtfejonkjfeedcaaDoorTapeP
set_option linter.unusedSimpArgs false
set_option linter.unusedVariables false
namespace Go.Proofs
open Go.Vm
attribute [local irreducible] awpMake awpAppend awpCvX awpStrOf awpBinX awpSlice awpBS awpStore awpAlloc awpCopy awpIndex awpDraw awpIdxX awpFa awpField

def T16 : Tab := ext T15 7 trueSpec
theorem good16 : Good T16 := good_ext good15 does_awake

def tellsSpec : Vm.Spec := fun args h Q => ∃ t b : List UInt8, args = [.sl 1 (t.map encB), .sl 1 (b.map encB)] ∧ Q (.v (.bool true)) h

theorem does_tells : Does Tryd.prog 3 tellsSpec := by
  refine does_of_awp good16 Tryd.func3 rfl (by decide +kernel) (by decide +kernel) ?_
  rintro args h Q ⟨t, b, rfl, hq⟩
  refine ⟨by simp [Tryd.f3], ?_⟩
  rw [awpFunc_some (by rfl)]
  simp -dsimp only [Vm.E, List.lookup, Nat.reduceAdd, Nat.reduceBEq, Tryd.underlying22]
  by_cases hbig : t.length > 3000 ∨ b.length > 3000
  · have hor : ∀ (x : Bool), (decide ((t.length : Int) > 3000) = true ∨ decide ((b.length : Int) > 3000) = true) := fun _ => by
      rcases hbig with h | h
      · exact .inl (by simp; omega)
      · exact .inr (by simp; omega)
    cases h1 : decide ((t.length : Int) > 3000)
    · have h2 : decide ((b.length : Int) > 3000) = true := by
        rcases hor true with h | h
        · rw [h1] at h; cases h
        · exact h
      simp -dsimp only [Vm.E, List.lookup, Nat.reduceAdd, Nat.reduceBEq, Tryd.underlying22, h2]
      refine call_one (S := trueSpec) rfl _ GaL.rfl ⟨rfl, ?_⟩
      simp -dsimp only [Vm.E, List.lookup, Nat.reduceAdd, Nat.reduceBEq, Tryd.results3]
      exact hq
    · simp -dsimp only [Vm.E, List.lookup, Nat.reduceAdd, Nat.reduceBEq, Tryd.underlying22]
      refine call_one (S := trueSpec) rfl _ GaL.rfl ⟨rfl, ?_⟩
      simp -dsimp only [Vm.E, List.lookup, Nat.reduceAdd, Nat.reduceBEq, Tryd.results3]
      exact hq
  · have h1 : decide ((t.length : Int) > 3000) = false := by simp; omega
    have h2 : decide ((b.length : Int) > 3000) = false := by simp; omega
    simp -dsimp only [Vm.E, List.lookup, Nat.reduceAdd, Nat.reduceBEq, Tryd.underlying22, h1, h2]
    refine call_one (S := appendSpec) rfl _ GaL.rfl ⟨t, b, by omega, rfl, ?_⟩
    rw [if_neg (by omega)]
    simp -dsimp only [Vm.E, List.lookup, Nat.reduceAdd, Nat.reduceBEq, ext_0, ext_1]
    refine call_one (S := appendSpec) rfl _ GaL.rfl ⟨t, b, by omega, rfl, ?_⟩
    rw [if_neg (by omega)]
    simp -dsimp only [Vm.E, List.lookup, Nat.reduceAdd, Nat.reduceBEq, ext_0, ext_1]
    refine call_one (S := readSpec) rfl _ GaL.rfl ⟨t, by omega, rfl, ?_⟩
    simp -dsimp only [Vm.E, List.lookup, Nat.reduceAdd, Nat.reduceBEq, ext_0, ext_1]
    refine call_one (S := readSpec) rfl _ GaL.rfl ⟨t, by omega, rfl, ?_⟩
    have hle := end_le t
    have hlen : (readOf t).length ≤ maxLen := by have := endOf_ge (readOf t); unfold maxLen; omega
    simp -dsimp only [Vm.E, List.lookup, Nat.reduceAdd, Nat.reduceBEq, ext_0, ext_1, awp_draw]
    refine draw_intro (.take 0 (.alt 1 (.alt 2 (.alt 3 (.take 4 (.alt 5 (.alt 6 (.alt 7 (.alt 8 (.take 9 (.alt 10 (.alt 11 (.alt 12 (.alt 13 (.take 14 (.alt 15 (.alt 16 (.alt 17 (.alt 18 (.take 19 (.take 21 (.take 22 (.take 23 (.alt 20 (.alt 24 (.alt 25 (.alt 26 (.alt 27 (.alt 28 (.alt 29 (.done) .stop) .stop) .stop) .stop) .stop) .stop) .stop))))) .stop) .stop) .stop) .stop)) .stop) .stop) .stop) .stop)) .stop) .stop) .stop) .stop)) .stop) .stop) .stop)) (by kernel_rfl) (by kernel_rfl) (by kernel_rfl) (by decide) ?_
    simp -dsimp only [Vm.E, List.lookup, Nat.reduceAdd, Nat.reduceBEq, tree_take, tree_one, tree_done, treeA_some]
    refine call_one (S := equalSpec) rfl _ GaL.rfl ⟨_, _, rfl, ?_⟩
    have d0 : ((0 : Int) == 0) = true := rfl
    have da : ∀ l : List UInt8, (l == l) = true := fun l => by simp
    have dl : ∀ l : List (List UInt8), (l == l) = true := fun l => by simp
    have dn : ∀ n : Int, (n == n) = true := fun n => by simp
    simp -dsimp only [Vm.E, List.lookup, Nat.reduceAdd, Nat.reduceBEq, tree_take, tree_one, tree_done, treeA_some, da, d0]
    refine call_one (S := bytesSpec) rfl _ GaL.rfl ⟨_, _, hlen, rfl, ?_⟩
    simp -dsimp only [Vm.E, List.lookup, Nat.reduceAdd, Nat.reduceBEq, tree_take, tree_one, tree_done, treeA_some, dl, dn]
    refine slice_h es22 (by omega) (by simp; omega) ?_
    have e : (t.map encB).take ((endOf (readOf t) : Nat) : Int).toNat = (cutOf t).map encB := by
      rw [Int.toNat_natCast, ← List.map_take]; rfl
    rw [e]
    simp -dsimp only [Vm.E, List.lookup, Nat.reduceAdd, Nat.reduceBEq, tree_take, tree_one, tree_done, treeA_some]
    refine call_one (S := cutSpec) rfl _ GaL.rfl ⟨t, by omega, rfl, ?_⟩
    rintro v (rfl | ⟨h0, rfl⟩)
    · simp -dsimp only [Vm.E, List.lookup, Nat.reduceAdd, Nat.reduceBEq, tree_take, tree_one, tree_done, treeA_some]
      refine call_one (S := equalSpec) rfl _ GaL.rfl ⟨_, _, rfl, ?_⟩
      simp -dsimp only [Vm.E, List.lookup, Nat.reduceAdd, Nat.reduceBEq, tree_take, tree_one, tree_done, treeA_some, da]
      refine call_one (S := trueSpec) rfl _ GaL.rfl ⟨rfl, ?_⟩
      simp -dsimp only [Vm.E, List.lookup, Nat.reduceAdd, Nat.reduceBEq, tree_take, tree_one, tree_done, treeA_some, Tryd.results3]
      exact hq
    · simp -dsimp only [Vm.E, List.lookup, Nat.reduceAdd, Nat.reduceBEq, tree_take, tree_one, tree_done, treeA_some]
      refine call_one (S := equalSpec) rfl _ (.cons (.nil 1) GaL.rfl) ⟨[], cutOf t, rfl, ?_⟩
      rw [h0]
      simp -dsimp only [Vm.E, List.lookup, Nat.reduceAdd, Nat.reduceBEq, tree_take, tree_one, tree_done, treeA_some, da]
      refine call_one (S := trueSpec) rfl _ GaL.rfl ⟨rfl, ?_⟩
      simp -dsimp only [Vm.E, List.lookup, Nat.reduceAdd, Nat.reduceBEq, tree_take, tree_one, tree_done, treeA_some, Tryd.results3]
      exact hq

end Go.Proofs
