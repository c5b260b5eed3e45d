/- The reference's sum; numbers as bytes. -/
import Derived.Test.YtfejonkjfeedcaaDoorTapeA
set_option linter.unusedSimpArgs false
set_option linter.unusedVariables false
namespace Go.Proofs
open Go.Vm

def bits8 : Nat → BitVec 32 → BitVec 32
  | 0, c => c
  | n + 1, c => bit1 (bits8 n c)

theorem odd32 (c : BitVec 32) : ((c.toNat : Int).tmod 2 == 1) = c.getLsbD 0 := by
  rw [Int.tmod_eq_emod_of_nonneg (by omega)]
  have h : c.getLsbD 0 = (c.toNat % 2 == 1) := by
    rw [BitVec.getLsbD, Nat.testBit_zero]
    by_cases h : c.toNat % 2 = 1 <;> simp [h]
  rw [h]
  rcases Nat.mod_two_eq_zero_or_one c.toNat with h0 | h0
  · have e : (c.toNat : Int) % 2 = 0 := by omega
    rw [e, h0]; rfl
  · have e : (c.toNat : Int) % 2 = 1 := by omega
    rw [e, h0]; rfl
theorem half32 (c : BitVec 32) : IntKind.u32.wrap ((c.toNat : Int).tdiv 2) = ((c >>> 1).toNat : Int) := by
  have := c.isLt
  rw [Int.tdiv_eq_ediv_of_nonneg (by omega), wrap_u32 (by omega) (by omega), BitVec.toNat_ushiftRight, Nat.shiftRight_eq_div_pow]
  omega

theorem does_refStep : Does Tryd.prog 49 stepSpec := by
  refine does_of_awp good0 Tryd.func49 rfl (by decide +kernel) (by decide +kernel) ?_
  rintro args h Q ⟨c, b, rfl, hq⟩
  refine ⟨by simp [Tryd.f49], ?_⟩
  rw [awpFunc_some (by rfl)]
  simp -dsimp only [Vm.E, List.lookup, Nat.reduceAdd, Nat.reduceBEq, cv5_64, u8_32, bits_xor32]
  refine awp_loop (fun n s h' => ∃ i : Nat, i + n = 8 ∧ h' = h ∧ s = mk [(0, .v (.int .u32 ((bits8 i (c ^^^ BitVec.ofNat 32 b.toNat)).toNat : Int))), (5, .v (.int .i64 i))])
    8 _ (le_mk _ ?_) ⟨0, by omega, rfl, rfl⟩ ?_
  · simp [init_get, bits8]
  · rintro n s h' ⟨i, hi, rfl, rfl⟩
    simp -dsimp only [Vm.E, List.lookup, Nat.reduceAdd, Nat.reduceBEq]
    refine cond_intro (fun hc => ?_) (fun hc => ?_)
    · have hlt : i < 8 := by have := of_decide_eq_true hc; omega
      simp -dsimp only [Vm.E, List.lookup, Nat.reduceAdd, Nat.reduceBEq]
      refine rem_intro (by decide) ?_
      simp -dsimp only [Vm.E, List.lookup, Nat.reduceAdd, Nat.reduceBEq, odd32]
      refine cond_intro (fun ho => ?_) (fun ho => ?_)
      · simp -dsimp only [Vm.E, List.lookup, Nat.reduceAdd, Nat.reduceBEq]
        refine quo_intro (by decide) ?_
        have ex := bits_xor32 (bits8 i (c ^^^ BitVec.ofNat 32 b.toNat) >>> 1) 3988292384#32
        simp -dsimp only [Vm.E, List.lookup, Nat.reduceAdd, Nat.reduceBEq, half32]
        refine kept_intro ⟨8 - (i + 1), by omega, _, le_mk [(0, .v (.int .u32 ((bits8 (i + 1) (c ^^^ BitVec.ofNat 32 b.toNat)).toNat : Int))), (5, .v (.int .i64 (i + 1 : Nat)))] ?_, i + 1, by omega, rfl, rfl⟩
        simp only [List.forall_mem_cons, List.not_mem_nil, false_imp_iff, implies_true, and_true]
        simp -dsimp only [Vm.E, List.lookup, Nat.reduceAdd, Nat.reduceBEq]
        rw [wrap_i64 (by omega) (by omega), show Go.bits .xor .u32 (((bits8 i (c ^^^ BitVec.ofNat 32 b.toNat)) >>> 1).toNat : Int) 3988292384 = _ from ex]
        simp only [bits8, bit1, ho, if_true]
        exact ⟨.refl _, .refl _⟩
      · simp -dsimp only [Vm.E, List.lookup, Nat.reduceAdd, Nat.reduceBEq]
        refine quo_intro (by decide) ?_
        simp -dsimp only [Vm.E, List.lookup, Nat.reduceAdd, Nat.reduceBEq, half32]
        refine kept_intro ⟨8 - (i + 1), by omega, _, le_mk [(0, .v (.int .u32 ((bits8 (i + 1) (c ^^^ BitVec.ofNat 32 b.toNat)).toNat : Int))), (5, .v (.int .i64 (i + 1 : Nat)))] ?_, i + 1, by omega, rfl, rfl⟩
        simp only [List.forall_mem_cons, List.not_mem_nil, false_imp_iff, implies_true, and_true]
        simp -dsimp only [Vm.E, List.lookup, Nat.reduceAdd, Nat.reduceBEq]
        rw [wrap_i64 (by omega) (by omega)]
        simp only [bits8, bit1, ho, Bool.false_eq_true, if_false]
        exact ⟨.refl _, .refl _⟩
    · have hge : ¬ i < 8 := by have := of_decide_eq_false hc; omega
      simp -dsimp only [Vm.E, List.lookup, Nat.reduceAdd, Nat.reduceBEq, Tryd.results49]
      have : i = 8 := by omega
      subst this
      exact hq

def T3 : Tab := ext T2 49 stepSpec
theorem good3 : Good T3 := good_ext good2 does_refStep

theorem not32b (c : BitVec 32) : Go.bits .xor .u32 (c.toNat : Int) 4294967295 = ((~~~ c).toNat : Int) := by
  have := bits_xor32 c 4294967295#32
  rw [show Go.bits .xor .u32 (c.toNat : Int) 4294967295 = _ from this]
  rw [BitVec.xor_comm, ← BitVec.allOnes_xor (x := c)]
  rfl

theorem does_refSum : Does Tryd.prog 35 sumSpec := by
  refine does_of_awp good3 Tryd.func35 rfl (by decide +kernel) (by decide +kernel) ?_
  rintro args h Q ⟨l, hl, rfl, hq⟩
  refine ⟨by simp [Tryd.f35], ?_⟩
  rw [awpFunc_some (by rfl)]
  simp -dsimp only [Vm.E, List.lookup, Nat.reduceAdd, Nat.reduceBEq, Tryd.underlying22]
  refine awp_loop (fun n s h' => ∃ i, i + n = l.length ∧ h' = h ∧ s = mk [(0, .sl 1 (l.map encB)), (3, .v (.int .u32 (((l.take i).foldl crcStep 4294967295#32).toNat : Int))), (4, .v (.int .i64 i))])
    l.length _ (le_mk _ ?_) ⟨0, by omega, rfl, rfl⟩ ?_
  · simp [init_get]
  · rintro n s h' ⟨i, hi, rfl, rfl⟩
    simp -dsimp only [Vm.E, List.lookup, Nat.reduceAdd, Nat.reduceBEq, Tryd.underlying22]
    refine cond_intro (fun hc => ?_) (fun hc => ?_)
    · have hlt : i < l.length := by simpa using hc
      simp -dsimp only [Vm.E, List.lookup, Nat.reduceAdd, Nat.reduceBEq, es22, as22]
      refine idx_bytes l i hlt ?_
      simp -dsimp only [Vm.E, List.lookup, Nat.reduceAdd, Nat.reduceBEq, of5]
      refine call_one (S := stepSpec) rfl _ GaL.rfl ⟨_, _, rfl, ?_⟩
      simp -dsimp only [Vm.E, List.lookup, Nat.reduceAdd, Nat.reduceBEq]
      refine kept_intro ⟨l.length - (i + 1), by omega, _, le_mk [(0, .sl 1 (l.map encB)), (3, .v (.int .u32 (((l.take (i + 1)).foldl crcStep 4294967295#32).toNat : Int))), (4, .v (.int .i64 (i + 1 : Nat)))] ?_, i + 1, by omega, rfl, rfl⟩
      simp only [List.forall_mem_cons, List.not_mem_nil, false_imp_iff, implies_true, and_true]
      simp -dsimp only [Vm.E, List.lookup, Nat.reduceAdd, Nat.reduceBEq]
      rw [crc_take l i hlt, wrap_i64 (by omega) (by unfold maxLen at hl; omega)]
      exact ⟨.refl _, .refl _, .refl _⟩
    · have hge : ¬ i < l.length := by simpa using hc
      simp -dsimp only [Vm.E, List.lookup, Nat.reduceAdd, Nat.reduceBEq, Tryd.results35, not32b]
      rw [List.take_of_length_le (by omega)]
      exact hq

/-! What may stand in so many bytes. -/
def fits (n size : Int) : Bool := size == 8 || (sized size && decide (0 ≤ n) && decide (n < 256 ^ size.toNat))
def rightSpec : Vm.Spec := fun args h Q => ∃ n size : Int, -9223372036854775808 ≤ n ∧ n ≤ 9223372036854775807 ∧ args = [.v (.int .i64 n), .v (.int .i64 size)] ∧ Q (.v (.bool (fits n size))) h

def T4 : Tab := ext (ext T3 59 sizedSpec) 38 sizedSpec
theorem good4 : Good T4 := good_ext (good_ext good3 does_sized) does_refSized

theorem sized_cases {size : Int} (h : sized size = true) : size = 1 ∨ size = 2 ∨ size = 4 ∨ size = 8 := by
  simp only [sized, Bool.or_eq_true, beq_iff_eq] at h
  omega

theorem does_right : Does Tryd.prog 46 rightSpec := by
  refine does_of_awp good4 Tryd.func46 rfl (by decide +kernel) (by decide +kernel) ?_
  rintro args h Q ⟨n, size, hn0, hn1, rfl, hq⟩
  refine ⟨by simp [Tryd.f46], ?_⟩
  rw [awpFunc_some (by rfl)]
  unfold fits at hq
  simp -dsimp only [Vm.E, List.lookup, Nat.reduceAdd, Nat.reduceBEq]
  cases h8 : (size == 8)
  · simp -dsimp only [Vm.E, List.lookup, Nat.reduceAdd, Nat.reduceBEq, h8]
    refine call_one (S := sizedSpec) rfl _ GaL.rfl ⟨_, rfl, ?_⟩
    simp -dsimp only [Vm.E, List.lookup, Nat.reduceAdd, Nat.reduceBEq]
    cases hs : sized size
    · simp -dsimp only [Vm.E, List.lookup, Nat.reduceAdd, Nat.reduceBEq, Tryd.results46]
      simpa [h8, hs] using hq
    · simp -dsimp only [Vm.E, List.lookup, Nat.reduceAdd, Nat.reduceBEq]
      cases h0 : decide (n ≥ 0)
      · simp -dsimp only [Vm.E, List.lookup, Nat.reduceAdd, Nat.reduceBEq, Tryd.results46]
        have : ¬ 0 ≤ n := by have := of_decide_eq_false h0; omega
        simpa [h8, hs, this] using hq
      · have h0' : 0 ≤ n := by have := of_decide_eq_true h0; omega
        simp -dsimp only [Vm.E, List.lookup, Nat.reduceAdd, Nat.reduceBEq]
        rcases sized_cases hs with rfl | rfl | rfl | rfl
        · refine shr_intro (by decide) ?_
          simp -dsimp only [Vm.E, List.lookup, Nat.reduceAdd, Nat.reduceBEq, Tryd.results46]
          have : ((n.fdiv (2 ^ min (IntKind.i64.wrap (8 * 1)).toNat IntKind.i64.bits)) == 0) = decide (n < 256) := by
            rw [show (2 : Int) ^ min (IntKind.i64.wrap (8 * 1)).toNat IntKind.i64.bits = 256 by decide, Int.fdiv_eq_ediv_of_nonneg _ (by decide)]
            by_cases hlt : n < 256
            · simp only [hlt, decide_true, beq_iff_eq]; omega
            · simp only [hlt, decide_false, beq_eq_false_iff_ne]; omega
          rw [this]
          simpa [hs, h0'] using hq
        · refine shr_intro (by decide) ?_
          simp -dsimp only [Vm.E, List.lookup, Nat.reduceAdd, Nat.reduceBEq, Tryd.results46]
          have : ((n.fdiv (2 ^ min (IntKind.i64.wrap (8 * 2)).toNat IntKind.i64.bits)) == 0) = decide (n < 65536) := by
            rw [show (2 : Int) ^ min (IntKind.i64.wrap (8 * 2)).toNat IntKind.i64.bits = 65536 by decide, Int.fdiv_eq_ediv_of_nonneg _ (by decide)]
            by_cases hlt : n < 65536
            · simp only [hlt, decide_true, beq_iff_eq]; omega
            · simp only [hlt, decide_false, beq_eq_false_iff_ne]; omega
          rw [this]
          simpa [hs, h0'] using hq
        · refine shr_intro (by decide) ?_
          simp -dsimp only [Vm.E, List.lookup, Nat.reduceAdd, Nat.reduceBEq, Tryd.results46]
          have : ((n.fdiv (2 ^ min (IntKind.i64.wrap (8 * 4)).toNat IntKind.i64.bits)) == 0) = decide (n < 4294967296) := by
            rw [show (2 : Int) ^ min (IntKind.i64.wrap (8 * 4)).toNat IntKind.i64.bits = 4294967296 by decide, Int.fdiv_eq_ediv_of_nonneg _ (by decide)]
            by_cases hlt : n < 4294967296
            · simp only [hlt, decide_true, beq_iff_eq]; omega
            · simp only [hlt, decide_false, beq_eq_false_iff_ne]; omega
          rw [this]
          simpa [hs, h0'] using hq
        · cases h8
  · simp -dsimp only [Vm.E, List.lookup, Nat.reduceAdd, Nat.reduceBEq, h8, Tryd.results46]
    simpa [h8] using hq

end Go.Proofs
