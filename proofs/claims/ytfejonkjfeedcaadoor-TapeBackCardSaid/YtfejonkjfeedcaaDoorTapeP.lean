/- Cut; the law TapeTells. -/
import Derived.Test.YtfejonkjfeedcaaDoorTapeO
set_option linter.unusedSimpArgs false
set_option linter.unusedVariables false
namespace Go.Proofs
open Go.Vm
attribute [local irreducible] awpMake awpAppend awpCvX awpStrOf awpBinX awpSlice awpBS awpStore awpAlloc awpCopy awpIndex awpDraw awpIdxX awpFa awpField

def cutOf (t : List UInt8) : List UInt8 := t.take (endOf (readOf t))
def cutSpec : Vm.Spec := fun args h Q => ∃ t : List UInt8, t.length ≤ 35184372 ∧ args = [.sl 1 (t.map encB)] ∧
  (∀ v, v = .own true 5 1 ((cutOf t).map encB) ∨ (cutOf t = [] ∧ v = .v (.slice none 0 0)) → Q v h)

def T14 : Tab := ext (ext T13 10 readSpec) 11 readSpec
theorem good14 : Good T14 := good_ext (good_ext good13 does_read) does_refRead

theorem end_le (t : List UInt8) : endOf (readOf t) ≤ t.length := (take_end t.length t (Nat.le_refl _)).2.2

theorem does_cut : Does Tryd.prog 14 cutSpec := by
  refine does_of_awp good14 Tryd.func14 rfl (by decide +kernel) (by decide +kernel) ?_
  rintro args h Q ⟨t, ht, rfl, hq⟩
  refine ⟨by simp [Tryd.f14], ?_⟩
  rw [awpFunc_some (by rfl)]
  simp -dsimp only [Vm.E, List.lookup, Nat.reduceAdd, Nat.reduceBEq]
  refine call_one (S := readSpec) rfl _ GaL.rfl ⟨t, by omega, rfl, ?_⟩
  have hle := end_le t
  simp -dsimp only [Vm.E, List.lookup, Nat.reduceAdd, Nat.reduceBEq, ext_0, ext_1]
  refine slice_h es22 (by omega) (by simp; omega) ?_
  have e : (t.map encB).take ((endOf (readOf t) : Nat) : Int).toNat = (cutOf t).map encB := by
    rw [Int.toNat_natCast, ← List.map_take]; rfl
  rw [e]
  simp -dsimp only [Vm.E, List.lookup, Nat.reduceAdd, Nat.reduceBEq]
  refine call_one (S := cloneSpec) rfl _ GaL.rfl ⟨cutOf t, by unfold cutOf; simp; omega, rfl, ?_⟩
  rintro v (rfl | ⟨h0, rfl⟩)
  · simp -dsimp only [Vm.E, List.lookup, Nat.reduceAdd, Nat.reduceBEq, Tryd.results14]
    exact hq _ (.inl rfl)
  · simp -dsimp only [Vm.E, List.lookup, Nat.reduceAdd, Nat.reduceBEq, Tryd.results14]
    exact hq _ (.inr ⟨h0, rfl⟩)

def T15 : Tab := ext (ext (ext T14 14 cutSpec) 8 appendSpec) 9 appendSpec
theorem good15 : Good T15 := good_ext (good_ext (good_ext good14 does_cut) does_append) does_refAppend

def trueSpec : Vm.Spec := fun args h Q => args = [] ∧ Q (.v (.bool true)) h

theorem awake_read : readOf ((pieceOf [97, 98] ++ pieceOf []) ++ [7]) = [[97, 98], []] := by
  rw [List.append_assoc, readOf_piece (by decide), readOf_piece (by decide), readOf_none (by decide)]
theorem awake_cut : (cutOf ((pieceOf [97, 98] ++ pieceOf []) ++ [7])).length = 14 := by
  unfold cutOf
  rw [awake_read, List.length_take]
  simp [piece_len, endOf]

theorem cvb22 (m : Bool) (e' sz sz2 : Nat) (y : AV) (ys zs : List AV) (s' s : Slots) (x : AV) (K : AV → Slots → Prop) :
    awpCvX Tryd.prog 22 22 (.own m e' sz (y :: ys), s') (.sl sz2 zs) x s K = K (.sl sz (y :: ys)) s' := by rw [cvX_own Tryd.underlying22]; exact cv_bytes s Tryd.underlying22 Tryd.underlying5 m e' sz y ys s' x K

theorem does_awake : Does Tryd.prog 7 trueSpec := by
  refine does_of_awp good15 Tryd.func7 rfl (by decide +kernel) (by decide +kernel) ?_
  rintro args h Q ⟨rfl, hq⟩
  refine ⟨by simp [Tryd.f7], ?_⟩
  rw [awpFunc_some (by rfl)]
  simp -dsimp only [Vm.E, List.lookup, Nat.reduceAdd, Nat.reduceBEq, es22]
  refine bs_intro zr5 (by decide) (by decide) rfl rfl (by simp [solid, AV.cells]) ?_
  simp -dsimp only [Vm.E, List.lookup, Nat.reduceAdd, Nat.reduceBEq, cvb22]
  refine call_one (S := appendSpec) rfl _ (.cons (.nil 1) GaL.rfl) ⟨[], [97, 98], by decide, rfl, ?_⟩
  rw [if_neg (by decide), List.nil_append]
  simp -dsimp only [Vm.E, List.lookup, Nat.reduceAdd, Nat.reduceBEq, ext_0, ext_1]
  have hl1 : (pieceOf [97, 98]).length = 8 := by rw [piece_len]; rfl
  have hl2 : (pieceOf []).length = 6 := by rw [piece_len]; rfl
  have h7 := awake_read
  have hc7 := awake_cut
  generalize pieceOf [97, 98] = a at hl1 h7 hc7 ⊢
  refine call_one (S := appendSpec) rfl _ (.cons (.refl _) (.cons (.nil 1) .nil)) ⟨a, [], by omega, rfl, ?_⟩
  rw [if_neg (by decide)]
  have hl3 : (a ++ pieceOf []).length = 14 := by rw [List.length_append, hl1, hl2]
  simp -dsimp only [Vm.E, List.lookup, Nat.reduceAdd, Nat.reduceBEq, ext_0, ext_1]
  generalize hb : a ++ pieceOf [] = b at hl3 h7 hc7 ⊢
  refine call_one (S := cloneSpec) rfl _ GaL.rfl ⟨b, by omega, rfl, ?_⟩
  rintro v (rfl | ⟨rfl, rfl⟩)
  · simp -dsimp only [Vm.E, List.lookup, Nat.reduceAdd, Nat.reduceBEq, es22]
    refine bs_intro zr5 (by decide) (by decide) rfl rfl (by simp [solid, AV.cells]) ?_
    simp -dsimp only [Vm.E, List.lookup, Nat.reduceAdd, Nat.reduceBEq, append_own ei22]
    refine app_sl Tryd.underlying22 (by simp [AV.cells]) ?_ ?_
    · simp only [List.length_map, List.length_cons, List.length_nil]; omega
    have eb : b.map encB ++ [AV.v (.int .u8 7)] = (b ++ [7]).map encB := by simp [encB]
    rw [eb]
    simp -dsimp only [Vm.E, List.lookup, Nat.reduceAdd, Nat.reduceBEq]
    refine call_one (S := readSpec) rfl _ GaL.rfl ⟨b ++ [7], by simp; omega, rfl, ?_⟩
    rw [h7]
    have ee : endOf [[97, 98], []] = 14 := rfl
    rw [ee]
    have d8 : (((8 : Nat) : Int) == 8) = true := rfl
    have d2 : (((2 : Nat) : Int) == 2) = true := rfl
    have d14 : (((14 : Nat) : Int) == 14) = true := rfl
    have d0 : ((0 : Int) == 0) = true := rfl
    simp -dsimp only [Vm.E, List.lookup, Nat.reduceAdd, Nat.reduceBEq, ext_0, ext_1, Tryd.underlying22, Tryd.underlying27, hl1, List.length_map, d8, d0, List.length_cons, List.length_nil, d2, es27, as27]
    refine idx_list [[97, 98], []] 0 (by decide) ?_
    simp -dsimp only [Vm.E, List.lookup, Nat.reduceAdd, Nat.reduceBEq, of22, cs22]
    refine strOf_sl bt22 [97, 98] rfl ?_
    have ds : ((ByteArray.mk [97, 98].toArray).toList == (ByteArray.mk [97, 98].toArray).toList) = true := by simp
    simp -dsimp only [Vm.E, List.lookup, Nat.reduceAdd, Nat.reduceBEq, str_eql, d14]
    refine call_one (S := cloneSpec) rfl _ GaL.rfl ⟨b, by omega, rfl, ?_⟩
    rintro v (rfl | ⟨rfl, rfl⟩)
    · simp -dsimp only [Vm.E, List.lookup, Nat.reduceAdd, Nat.reduceBEq, es22]
      refine bs_intro zr5 (by decide) (by decide) rfl rfl (by simp [solid, AV.cells]) ?_
      simp -dsimp only [Vm.E, List.lookup, Nat.reduceAdd, Nat.reduceBEq, append_own ei22]
      refine app_sl Tryd.underlying22 (by simp [AV.cells]) ?_ ?_
      · simp only [List.length_map, List.length_cons, List.length_nil]; omega
      rw [eb]
      simp -dsimp only [Vm.E, List.lookup, Nat.reduceAdd, Nat.reduceBEq]
      refine call_one (S := cutSpec) rfl _ GaL.rfl ⟨b ++ [7], by simp; omega, rfl, ?_⟩
      rintro v (rfl | ⟨h0, rfl⟩)
      · simp -dsimp only [Vm.E, List.lookup, Nat.reduceAdd, Nat.reduceBEq, Tryd.underlying22, List.length_map, hc7, d14, Tryd.results7]
        exact hq
      · rw [h0] at hc7; cases hc7
    · cases hl3
  · cases hl3

end Go.Proofs
