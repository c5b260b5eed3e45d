/- Lists of bytes: held against each other; few of them. -/
import Derived.Test.YtfejonkjfeedcaaDoorTapeE
set_option linter.unusedSimpArgs false
set_option linter.unusedVariables false
namespace Go.Proofs
open Go.Vm
attribute [local irreducible] awpMake awpAppend awpCvX awpStrOf awpBinX awpSlice awpBS awpStore awpAlloc awpCopy awpIndex awpDraw awpIdxX awpFa awpField

theorem es27 : elemSz Tryd.prog 27 = some (22, 1) := by kernel_rfl
theorem as27 : arrSz Tryd.prog 27 = none := by kernel_rfl
theorem sz22 : szT Tryd.prog 22 = some 1 := by kernel_rfl
theorem of22 (c : AV) (cs : List AV) (K : AV → Prop) : ofCells Tryd.prog 22 (c :: cs) K = K (val c) := by
  simp [ofCells, Tryd.underlying22, sz22]

/-- A list of bytes as the interpreter has it. -/
def encL (l : List UInt8) : AV := .sl 1 (l.map encB)
def encLL (a : List (List UInt8)) : AV := .sl 1 (a.map encL)

theorem idx_list (a : List (List UInt8)) (i : Nat) (hi : i < a.length) {e : Nat} {K : AV → Prop} (hK : K (.eptr [.sl 1 (a[i].map encB)])) : awpIdx (some (e, 1)) (.sl 1 (a.map encL)) (.v (.int .i64 i)) K := by
  refine idx_intro (xs := a.map encL) (by simp [asSl]) (by simp; omega) (fun x hx => ?_)
  have hx' : x = encL a[i] := by simp [hi] at hx; exact hx.symm
  subst hx'; exact hK

def equalLSpec : Vm.Spec := fun args h Q => ∃ a b : List (List UInt8), a.length ≤ maxLen ∧ args = [.sl 1 (a.map encL), .sl 1 (b.map encL), .clo 12 []] ∧ Q (.v (.bool (a == b))) h

theorem does_equalFunc : Does Tryd.prog 26 equalLSpec := by
  refine does_of_awp good9 Tryd.func26 rfl (by decide +kernel) (by decide +kernel) ?_
  rintro args h Q ⟨a, b, ha, rfl, hq⟩
  refine ⟨by simp [Tryd.f26], ?_⟩
  rw [awpFunc_some (by rfl)]
  simp -dsimp only [Vm.E, List.lookup, Nat.reduceAdd, Nat.reduceBEq, Tryd.underlying27]
  refine cond_intro (fun hc => ?_) (fun hc => ?_)
  · have hne : a.length ≠ b.length := by
      intro e
      rw [e] at hc
      simp at hc
    simp -dsimp only [Vm.E, List.lookup, Nat.reduceAdd, Nat.reduceBEq, Tryd.results26]
    have : (a == b) = false := by
      rw [beq_eq_false_iff_ne]
      intro e; exact hne (by rw [e])
    rw [this] at hq
    exact hq
  · have heq : a.length = b.length := by
      have : ((a.length : Int) != (b.length : Int)) = false := hc
      simp only [bne_eq_false_iff_eq] at this
      omega
    simp -dsimp only [Vm.E, List.lookup, Nat.reduceAdd, Nat.reduceBEq, Tryd.underlying27]
    refine awp_loop (fun n s h' => ∃ i : Nat, i + n = a.length ∧ h' = h ∧ a.take i = b.take i ∧ s = mk [(1, .sl 1 (b.map encL)), (2, .clo 12 []), (15, .sl 1 (a.map encL)), (16, .v (.int .i64 a.length)), (17, .v (.int .i64 i))])
      a.length _ (le_mk _ ?_) ⟨0, by omega, rfl, rfl, rfl⟩ ?_
    · simp [init_get]
    · rintro n s h' ⟨i, hi, rfl, htk, rfl⟩
      simp -dsimp only [Vm.E, List.lookup, Nat.reduceAdd, Nat.reduceBEq]
      refine cond_intro (fun hc => ?_) (fun hc => ?_)
      · have hlt : i < a.length := by have := of_decide_eq_true hc; omega
        have hlt2 : i < b.length := by omega
        simp -dsimp only [Vm.E, List.lookup, Nat.reduceAdd, Nat.reduceBEq, es27, as27]
        refine idx_list a i hlt ?_
        simp -dsimp only [Vm.E, List.lookup, Nat.reduceAdd, Nat.reduceBEq, of22, es27, as27]
        refine idx_list b i hlt2 ?_
        simp -dsimp only [Vm.E, List.lookup, Nat.reduceAdd, Nat.reduceBEq, of22]
        refine call_one (S := equalSpec) rfl _ GaL.rfl ⟨_, _, rfl, ?_⟩
        simp -dsimp only [Vm.E, List.lookup, Nat.reduceAdd, Nat.reduceBEq]
        refine cond_intro (fun hd => ?_) (fun hd => ?_)
        · have hne : a[i] ≠ b[i] := by simpa using hd
          simp -dsimp only [Vm.E, List.lookup, Nat.reduceAdd, Nat.reduceBEq, Tryd.results26]
          have : (a == b) = false := by
            rw [beq_eq_false_iff_ne]
            intro e; subst e; exact hne rfl
          rw [this] at hq
          exact hq
        · have he : a[i] = b[i] := by simpa using hd
          simp -dsimp only [Vm.E, List.lookup, Nat.reduceAdd, Nat.reduceBEq]
          refine kept_intro ⟨a.length - (i + 1), by omega, _, le_mk [(1, .sl 1 (b.map encL)), (2, .clo 12 []), (15, .sl 1 (a.map encL)), (16, .v (.int .i64 a.length)), (17, .v (.int .i64 (i + 1 : Nat)))] ?_, i + 1, by omega, rfl, ?_, rfl⟩
          · simp only [List.forall_mem_cons, List.not_mem_nil, false_imp_iff, implies_true, and_true]
            simp -dsimp only [Vm.E, List.lookup, Nat.reduceAdd, Nat.reduceBEq]
            rw [wrap_i64 (by omega) (by unfold maxLen at ha; omega)]
            exact ⟨.refl _, .refl _, .refl _, .refl _, .refl _⟩
          · rw [List.take_succ_eq_append_getElem hlt, List.take_succ_eq_append_getElem hlt2, htk, he]
      · have hge : ¬ i < a.length := by have := of_decide_eq_false hc; omega
        simp -dsimp only [Vm.E, List.lookup, Nat.reduceAdd, Nat.reduceBEq, Tryd.results26]
        rw [List.take_of_length_le (by omega), List.take_of_length_le (by omega)] at htk
        have : (a == b) = true := by rw [htk]; simp
        rw [this] at hq
        exact hq

def T10 : Tab := ext (ext T9 51 prefixSpec) 26 equalLSpec
theorem good10 : Good T10 := good_ext (good_ext good9 does_hasPrefix) does_equalFunc

def bytesSpec : Vm.Spec := fun args h Q => ∃ a b : List (List UInt8), a.length ≤ maxLen ∧ args = [.sl 1 (a.map encL), .sl 1 (b.map encL)] ∧ Q (.v (.bool (a == b))) h

theorem does_bytes : Does Tryd.prog 13 bytesSpec := by
  refine does_of_awp good10 Tryd.func13 rfl (by decide +kernel) (by decide +kernel) ?_
  rintro args h Q ⟨a, b, ha, rfl, hq⟩
  refine ⟨by simp [Tryd.f13], ?_⟩
  rw [awpFunc_some (by rfl)]
  simp -dsimp only [Vm.E, List.lookup, Nat.reduceAdd, Nat.reduceBEq]
  refine call_one (S := equalLSpec) rfl _ GaL.rfl ⟨a, b, ha, rfl, ?_⟩
  simp -dsimp only [Vm.E, List.lookup, Nat.reduceAdd, Nat.reduceBEq, Tryd.results13]
  exact hq

end Go.Proofs
