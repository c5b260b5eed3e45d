/- Bytes: held against each other, copied, appended. -/
import Derived.Test.YtfejonkjfeedcaaDoorTapeD
set_option linter.unusedSimpArgs false
set_option linter.unusedVariables false
namespace Go.Proofs
open Go.Vm
attribute [local irreducible] awpMake awpAppend awpCvX awpStrOf awpBinX awpSlice awpBS awpStore awpAlloc awpCopy awpIndex awpDraw awpIdxX awpFa awpField

theorem str_eql (P : Program) (t : TypeId) (a b : ByteArray) (KV : Value → Prop) : awpBin P .eql t (.v (.string a)) (.v (.string b)) KV = KV (.bool (a.toList == b.toList)) := id rfl
theorem str_neq (P : Program) (t : TypeId) (a b : ByteArray) (KV : Value → Prop) : awpBin P .neq t (.v (.string a)) (.v (.string b)) KV = KV (.bool (!(a.toList == b.toList))) := id rfl
theorem toList_mk (l : List UInt8) : (ByteArray.mk l.toArray).toList = l := by rw [ByteArray.toList_eq]
theorem cs22 (p : AV × Slots) (lk x : AV) (s : Slots) (K : AV → Slots → Prop) : awpCvX Tryd.prog 22 9 p lk x s K = awpStrOf Tryd.prog 22 lk (hid (fun v => K v s) .mk) := cvX_str Tryd.underlying9 p lk x s K

def equalSpec : Vm.Spec := fun args h Q => ∃ a b : List UInt8, args = [.sl 1 (a.map encB), .sl 1 (b.map encB)] ∧ Q (.v (.bool (a == b))) h

theorem does_equal : Does Tryd.prog 12 equalSpec := by
  refine does_of_awp good0 Tryd.func12 rfl (by decide +kernel) (by decide +kernel) ?_
  rintro args h Q ⟨a, b, rfl, hq⟩
  refine ⟨by simp [Tryd.f12], ?_⟩
  rw [awpFunc_some (by rfl)]
  simp -dsimp only [Vm.E, List.lookup, Nat.reduceAdd, Nat.reduceBEq, cs22]
  refine strOf_sl bt22 a rfl ?_
  simp -dsimp only [Vm.E, List.lookup, Nat.reduceAdd, Nat.reduceBEq, cs22]
  refine strOf_sl bt22 b rfl ?_
  simp -dsimp only [Vm.E, List.lookup, Nat.reduceAdd, Nat.reduceBEq, str_eql, toList_mk, Tryd.results12]
  exact hq

/-- A copy. -/
def cloneSpec : Vm.Spec := fun args h Q => ∃ l : List UInt8, l.length ≤ 70368744177664 ∧ args = [.sl 1 (l.map encB)] ∧ (∀ v, v = .own true 5 1 (l.map encB) ∨ (l = [] ∧ v = .v (.slice none 0 0)) → Q v h)

theorem does_clone : Does Tryd.prog 16 cloneSpec := by
  refine does_of_awp good0 Tryd.func16 rfl (by decide +kernel) (by decide +kernel) ?_
  rintro args h Q ⟨l, hl, rfl, hq⟩
  refine ⟨by simp [Tryd.f16], ?_⟩
  rw [awpFunc_some (by rfl)]
  simp -dsimp only [Vm.E, List.lookup, Nat.reduceAdd, Nat.reduceBEq]
  refine nil_slice Tryd.underlying22 (nilSl_sl fun b hb => ?_)
  cases b
  · simp -dsimp only [Vm.E, List.lookup, Nat.reduceAdd, Nat.reduceBEq, es22]
    refine bs_intro zr5 (by decide) (by decide) rfl rfl (by simp) ?_
    simp -dsimp only [Vm.E, List.lookup, Nat.reduceAdd, Nat.reduceBEq, append_own ei22]
    refine app_sl Tryd.underlying22 (fun c hc => by obtain ⟨y, -, rfl⟩ := List.mem_map.1 hc; rfl) ?_ ?_
    · simp only [List.length_map, List.length_nil]; omega
    simp -dsimp only [Vm.E, List.lookup, Nat.reduceAdd, Nat.reduceBEq, Tryd.results16]
    exact hq _ (.inl rfl)
  · have hl0 : l = [] := by simpa using hb rfl
    subst hl0
    simp -dsimp only [Vm.E, List.lookup, Nat.reduceAdd, Nat.reduceBEq, Tryd.results16]
    exact hq _ (.inr ⟨rfl, rfl⟩)

def T9 : Tab := ext (ext (ext (ext T8 12 equalSpec) 16 cloneSpec) 22 pieceSpec) 23 pieceSpec
theorem good9 : Good T9 := good_ext (good_ext (good_ext (good_ext good8 does_equal) does_clone) does_sealed) does_piece

def prefixSpec : Vm.Spec := fun args h Q => ∃ a b : List UInt8, args = [.sl 1 (a.map encB), .sl 1 (b.map encB)] ∧ Q (.v (.bool (b.isPrefixOf a))) h

theorem does_hasPrefix : Does Tryd.prog 51 prefixSpec := by
  refine does_of_awp good9 Tryd.func51 rfl (by decide +kernel) (by decide +kernel) ?_
  rintro args h Q ⟨a, b, rfl, hq⟩
  refine ⟨by simp [Tryd.f51], ?_⟩
  rw [awpFunc_some (by rfl)]
  simp -dsimp only [Vm.E, List.lookup, Nat.reduceAdd, Nat.reduceBEq, Tryd.underlying22]
  cases hg : decide ((a.length : Int) ≥ (b.length : Int))
  · have hlt : ¬ b.length ≤ a.length := by have := of_decide_eq_false hg; omega
    simp -dsimp only [Vm.E, List.lookup, Nat.reduceAdd, Nat.reduceBEq, Tryd.results51]
    have : b.isPrefixOf a = false := by
      cases hp : b.isPrefixOf a
      · rfl
      · exact absurd (List.IsPrefix.length_le (List.isPrefixOf_iff_prefix.1 hp)) hlt
    rw [this] at hq
    exact hq
  · have hle : b.length ≤ a.length := by have := of_decide_eq_true hg; omega
    simp -dsimp only [Vm.E, List.lookup, Nat.reduceAdd, Nat.reduceBEq, Tryd.underlying22]
    refine slice_h es22 (by omega) (by simp; omega) ?_
    simp -dsimp only [Vm.E, List.lookup, Nat.reduceAdd, Nat.reduceBEq]
    have e : (a.map encB).take ((b.length : Int)).toNat = (a.take b.length).map encB := by simp
    rw [e]
    refine call_one (S := equalSpec) rfl _ GaL.rfl ⟨_, _, rfl, ?_⟩
    simp -dsimp only [Vm.E, List.lookup, Nat.reduceAdd, Nat.reduceBEq, Tryd.results51]
    have : (a.take b.length == b) = b.isPrefixOf a := by
      rw [Bool.eq_iff_iff]
      simp only [beq_iff_eq, List.isPrefixOf_iff_prefix]
      rw [List.prefix_iff_eq_take]
      exact ⟨fun h => h.symm, fun h => h.symm⟩
    rw [this]
    exact hq

/-- A tape with a piece more. -/
def appendSpec : Vm.Spec := fun args h Q => ∃ t b : List UInt8, t.length ≤ 35184372088832 ∧ args = [.sl 1 (t.map encB), .sl 1 (b.map encB)] ∧
  if b.length > 65535 then Q (.tup [.v (.slice none 0 0), .v (.int .i64 16)]) h else Q (.tup [.sl 1 ((t ++ pieceOf b).map encB), .v (.int .i64 0)]) h

theorem piece_len (b : List UInt8) : (pieceOf b).length = b.length + 6 := by simp [pieceOf, be]; omega

theorem does_append : Does Tryd.prog 8 appendSpec := by
  refine does_of_awp good9 Tryd.func8 rfl (by decide +kernel) (by decide +kernel) ?_
  rintro args h Q ⟨t, b, ht, rfl, hq⟩
  refine ⟨by simp [Tryd.f8], ?_⟩
  rw [awpFunc_some (by rfl)]
  simp -dsimp only [Vm.E, List.lookup, Nat.reduceAdd, Nat.reduceBEq, Tryd.underlying22]
  refine cond_intro (fun hc => ?_) (fun hc => ?_)
  · have hgt : b.length > 65535 := by have := of_decide_eq_true hc; omega
    rw [if_pos hgt] at hq
    simp -dsimp only [Vm.E, List.lookup, Nat.reduceAdd, Nat.reduceBEq, Tryd.results8]
    exact hq
  · have hle : ¬ b.length > 65535 := by have := of_decide_eq_false hc; omega
    rw [if_neg hle] at hq
    have hpl := piece_len b
    simp -dsimp only [Vm.E, List.lookup, Nat.reduceAdd, Nat.reduceBEq]
    refine call_one (S := cloneSpec) rfl _ GaL.rfl ⟨t, by omega, rfl, ?_⟩
    rintro v (rfl | ⟨rfl, rfl⟩)
    · simp -dsimp only [Vm.E, List.lookup, Nat.reduceAdd, Nat.reduceBEq]
      refine call_one (S := pieceSpec) rfl _ GaL.rfl ⟨b, by omega, rfl, ?_⟩
      simp -dsimp only [Vm.E, List.lookup, Nat.reduceAdd, Nat.reduceBEq, append_own ei22]
      refine app_sl Tryd.underlying22 (fun c hc => by obtain ⟨y, -, rfl⟩ := List.mem_map.1 hc; rfl) ?_ ?_
      · simp only [List.length_map]; omega
      simp -dsimp only [Vm.E, List.lookup, Nat.reduceAdd, Nat.reduceBEq, Tryd.results8]
      rw [← List.map_append]
      exact hq
    · simp -dsimp only [Vm.E, List.lookup, Nat.reduceAdd, Nat.reduceBEq]
      refine call_one (S := pieceSpec) rfl _ GaL.rfl ⟨b, by omega, rfl, ?_⟩
      simp -dsimp only [Vm.E, List.lookup, Nat.reduceAdd, Nat.reduceBEq, append_nil ei22]
      refine app_sl Tryd.underlying22 (fun c hc => by obtain ⟨y, -, rfl⟩ := List.mem_map.1 hc; rfl) ?_ ?_
      · simp only [List.length_map, List.length_nil]; omega
      simp -dsimp only [Vm.E, List.lookup, Nat.reduceAdd, Nat.reduceBEq, Tryd.results8]
      exact hq

theorem does_refAppend : Does Tryd.prog 9 appendSpec := by
  refine does_of_awp good9 Tryd.func9 rfl (by decide +kernel) (by decide +kernel) ?_
  rintro args h Q ⟨t, b, ht, rfl, hq⟩
  refine ⟨by simp [Tryd.f9], ?_⟩
  rw [awpFunc_some (by rfl)]
  simp -dsimp only [Vm.E, List.lookup, Nat.reduceAdd, Nat.reduceBEq, Tryd.underlying22]
  refine cond_intro (fun hc => ?_) (fun hc => ?_)
  · have hgt : b.length > 65535 := by have := of_decide_eq_true hc; omega
    rw [if_pos hgt] at hq
    simp -dsimp only [Vm.E, List.lookup, Nat.reduceAdd, Nat.reduceBEq, Tryd.results9]
    exact hq
  · have hle : ¬ b.length > 65535 := by have := of_decide_eq_false hc; omega
    rw [if_neg hle] at hq
    have hpl := piece_len b
    simp -dsimp only [Vm.E, List.lookup, Nat.reduceAdd, Nat.reduceBEq, append_nil ei22]
    refine app_sl Tryd.underlying22 (fun c hc => by obtain ⟨y, -, rfl⟩ := List.mem_map.1 hc; rfl) ?_ ?_
    · simp only [List.length_map, List.length_nil]; omega
    simp -dsimp only [Vm.E, List.lookup, Nat.reduceAdd, Nat.reduceBEq]
    refine call_one (S := pieceSpec) rfl _ GaL.rfl ⟨b, by omega, rfl, ?_⟩
    simp -dsimp only [Vm.E, List.lookup, Nat.reduceAdd, Nat.reduceBEq, append_own ei22]
    refine app_sl Tryd.underlying22 (fun c hc => by obtain ⟨y, -, rfl⟩ := List.mem_map.1 hc; rfl) ?_ ?_
    · simp only [List.length_map]; omega
    simp -dsimp only [Vm.E, List.lookup, Nat.reduceAdd, Nat.reduceBEq, Tryd.results9]
    rw [← List.map_append]
    exact hq

end Go.Proofs
