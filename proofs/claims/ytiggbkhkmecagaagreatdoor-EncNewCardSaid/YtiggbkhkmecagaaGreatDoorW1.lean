/- What the functions of the program do: their contracts. -/
import Derived.Test.YtiggbkhkmecagaaGreatDoorV2
import Derived.Test.YtiggbkhkmecagaaGreatDoorTFs
import Derived.Test.YtiggbkhkmecagaaGreatDoorW0
/- Keys and records are read as they were written: plain laws. -/
set_option linter.unusedSimpArgs false
set_option linter.unusedVariables false
namespace Go.Proofs.Lx
open Go.Vm
theorem yrTurn_n (f : Fun) (n st : Int) : (yrTurn f n st).n = f.n + 1 := rfl
theorem open_n (f : Fun) (n : Int) : (openOf f n).1.n ≤ f.n + 1 := by 
  unfold openOf
  repeat' split
  all_goals simp [yrTurn_n]
end Go.Proofs.Lx
/- Years: those that are there; the law YearsStay. -/
set_option linter.unusedSimpArgs false
set_option linter.unusedVariables false
namespace Go.Proofs.Lx
open Go.Vm
attribute [local irreducible] awpArr awpBin awpMake awpAppend awpCvX awpStrOf awpBinX awpSlice awpBS awpStore awpAlloc awpCopy awpIndex awpDraw awpIdxX awpFa awpField awpLookup awpUpdate awpDelete awpClear awpRange awpNext awpEntry awpBuild awpClearS awpIdxL
end Go.Proofs.Lx
/- The law YearsStay. -/
set_option linter.unusedSimpArgs false
set_option linter.unusedVariables false
namespace Go.Proofs.Lx
open Go.Vm
attribute [local irreducible] awpArr awpBin awpMake awpAppend awpCvX awpStrOf awpBinX awpSlice awpBS awpStore awpAlloc awpCopy awpIndex awpDraw awpIdxX awpFa awpField awpLookup awpUpdate awpDelete awpClear awpRange awpNext awpEntry awpBuild awpClearS awpIdxL
/-- A statement's answer. -/
def trueSpec : Vm.Spec := fun args h Q => args = [] ∧ ∀ h', Q (.v (.bool true)) h'
theorem idx_map {α : Type} (g : α → AV) (l : List α) (i : Nat) (hi : i < l.length) {e sz : Nat} {K : AV → Prop} (hK : K (.eptr (g l[i]).cells)) : awpIdx (some (e, sz)) (.sl sz (l.map g)) (.v (.int .i64 i)) K := by
  refine idx_intro (xs := l.map g) (by simp [asSl]) (by simp; omega) (fun x hx => ?_)
  have hx' : x = g l[i] := by simp [hi] at hx; exact hx.symm
  subst hx'; exact hK
theorem isA_list {α : Type} {e : Sh} (P : α → Prop) (g : α → AV) (hg : ∀ y, IsA e y → ∃ a, P a ∧ y = g a) {x : AV} (h : IsA (.sl e) x) : ∃ l : List α, l.length ≤ maxLen ∧ x = .sl e.n (l.map g) ∧ ∀ a ∈ l, P a := by
  simp only [IsA] at h
  obtain ⟨xs, hl, rfl, hx⟩ := h
  have : ∃ l : List α, xs = l.map g ∧ ∀ a ∈ l, P a := by
    clear hl
    induction xs with
    | nil => exact ⟨[], rfl, by simp⟩
    | cons y r ih =>
      obtain ⟨l, rfl, hl⟩ := ih fun z hz => hx z (List.mem_cons_of_mem _ hz)
      obtain ⟨a, ha, rfl⟩ := hg y (hx y (List.mem_cons_self ..))
      exact ⟨a :: l, rfl, fun b hb => by
        rcases List.mem_cons.1 hb with rfl | hb
        · exact ha
        · exact hl b hb⟩
  obtain ⟨l, rfl, h1⟩ := this
  exact ⟨l, by simpa using hl, rfl, h1⟩
theorem isA_int {x : AV} (h : IsA (.int .i64) x) : ∃ n, I64 n ∧ x = .v (.int .i64 n) := by
  simp only [IsA] at h
  obtain ⟨n, hn, rfl⟩ := h
  refine ⟨n, ?_, rfl⟩
  simp [Lit.wf, IntKind.min, IntKind.max, IntKind.signed, IntKind.bits] at hn
  unfold I64; omega
end Go.Proofs.Lx
/- Numbers as bytes: the reference's functions. -/
set_option linter.unusedSimpArgs false
set_option linter.unusedVariables false
namespace Go.Proofs.Lx
open Go.Vm
attribute [local irreducible] awpMake awpAppend awpCvX awpStrOf awpBinX awpSlice awpBS awpStore awpAlloc awpCopy awpIndex awpDraw awpIdxX awpFa awpField awpLookup awpUpdate awpDelete awpClear awpRange awpNext awpEntry awpBuild
theorem does_refSized : Does Tryz.prog 275 sizedSpec := by
  refine does_of_awp good_nil Tryz.func275 rfl (by decide +kernel) (by decide +kernel) ?_
  rintro args h Q ⟨n, rfl, hq⟩
  refine ⟨by simp [Tryz.f275], ?_⟩
  rw [awpFunc_some (by rfl)]
  unfold sized at hq
  simp -dsimp only [Vm.E, List.lookup, Nat.reduceAdd, Nat.reduceBEq, Int.reduceBNe, Int.reduceBEq, Bool.true_beq, Bool.false_beq]
  cases h1 : (n == 1) <;> cases h2 : (n == 2) <;> cases h4 : (n == 4) <;> cases h8 : (n == 8) <;>
    simp -dsimp only [Vm.E, List.lookup, Nat.reduceAdd, Nat.reduceBEq, Int.reduceBNe, Int.reduceBEq, Bool.true_beq, Bool.false_beq, h1, h2, h4, h8, Tryz.results275] <;> simpa [h1, h2, h4, h8] using hq
def powSpec : Vm.Spec := fun args h Q => ∃ k : Nat, k ≤ 7 ∧ args = [.v (.int .i64 k)] ∧ Q (.v (.int .i64 (256 ^ k : Nat))) h
theorem pow_le {i : Nat} (h : i ≤ 7) : 256 ^ i ≤ 256 ^ 7 := Nat.pow_le_pow_right (by decide) h
theorem does_pow : Does Tryz.prog 276 powSpec := by
  refine does_of_awp good_nil Tryz.func276 rfl (by decide +kernel) (by decide +kernel) ?_
  rintro args h Q ⟨k, hk, rfl, hq⟩
  refine ⟨by simp [Tryz.f276], ?_⟩
  rw [awpFunc_some (by rfl)]
  simp -dsimp only [Vm.E, List.lookup, Nat.reduceAdd, Nat.reduceBEq, Int.reduceBNe, Int.reduceBEq, Bool.true_beq, Bool.false_beq]
  refine awp_loop (fun n s h' => ∃ i : Nat, i + n = k ∧ h' = h ∧ s = mk [(0, .v (.int .i64 k)), (3, .v (.int .i64 (256 ^ i : Nat))), (4, .v (.int .i64 i))])
    k _ (le_mk _ ?_) ⟨0, by omega, rfl, rfl⟩ ?_
  · simp [init_get]
  · rintro n s h' ⟨i, hi, rfl, rfl⟩
    simp -dsimp only [Vm.E, List.lookup, Nat.reduceAdd, Nat.reduceBEq, Int.reduceBNe, Int.reduceBEq, Bool.true_beq, Bool.false_beq]
    refine cond_intro (fun hc => ?_) (fun hc => ?_)
    · have hlt : i < k := by have := of_decide_eq_true hc; omega
      simp -dsimp only [Vm.E, List.lookup, Nat.reduceAdd, Nat.reduceBEq, Int.reduceBNe, Int.reduceBEq, Bool.true_beq, Bool.false_beq]
      refine kept_intro ⟨k - (i + 1), by omega, _, le_mk [(0, .v (.int .i64 k)), (3, .v (.int .i64 (256 ^ (i + 1) : Nat))), (4, .v (.int .i64 (i + 1 : Nat)))] ?_, i + 1, by omega, rfl, rfl⟩
      simp only [List.forall_mem_cons, List.not_mem_nil, false_imp_iff, implies_true, and_true]
      simp -dsimp only [Vm.E, List.lookup, Nat.reduceAdd, Nat.reduceBEq, Int.reduceBNe, Int.reduceBEq, Bool.true_beq, Bool.false_beq]
      have e : (((256 ^ i : Nat) : Int) * 256) = ((256 ^ (i + 1) : Nat) : Int) := by rw [Nat.pow_succ]; simp
      have hp := pow_le (show i + 1 ≤ 7 by omega)
      have hp2 : (256 : Nat) ^ 7 = 72057594037927936 := by decide
      generalize hgg : 256 ^ (i + 1) = pw at hp
      rw [e, hgg, wrap_i64 (by omega) (by omega), wrap_i64 (by omega) (by omega)]
      exact ⟨.refl _, .refl _, .refl _⟩
    · have hge : ¬ i < k := by have := of_decide_eq_false hc; omega
      simp -dsimp only [Vm.E, List.lookup, Nat.reduceAdd, Nat.reduceBEq, Int.reduceBNe, Int.reduceBEq, Bool.true_beq, Bool.false_beq, Tryz.results276]
      have : i = k := by omega
      subst this
      exact hq
theorem does_refRight : Does Tryz.prog 235 rightSpec := by
  refine does_of_awp (good_cons does_refSized (good_cons does_pow good_nil)) Tryz.func235 rfl (by decide +kernel) (by decide +kernel) ?_
  rintro args h Q ⟨n, size, hn0, hn1, rfl, hq⟩
  refine ⟨by simp [Tryz.f235], ?_⟩
  rw [awpFunc_some (by rfl)]
  unfold fits at hq
  simp -dsimp only [Vm.E, List.lookup, Nat.reduceAdd, Nat.reduceBEq, Int.reduceBNe, Int.reduceBEq, Bool.true_beq, Bool.false_beq]
  cases h8 : (size == 8)
  · simp -dsimp only [Vm.E, List.lookup, Nat.reduceAdd, Nat.reduceBEq, Int.reduceBNe, Int.reduceBEq, Bool.true_beq, Bool.false_beq, h8]
    refine call_one (S := sizedSpec) rfl _ GaL.rfl ⟨_, rfl, ?_⟩
    simp -dsimp only [Vm.E, List.lookup, Nat.reduceAdd, Nat.reduceBEq, Int.reduceBNe, Int.reduceBEq, Bool.true_beq, Bool.false_beq]
    cases hs : sized size
    · simp -dsimp only [Vm.E, List.lookup, Nat.reduceAdd, Nat.reduceBEq, Int.reduceBNe, Int.reduceBEq, Bool.true_beq, Bool.false_beq, Tryz.results235]
      simpa [h8, hs] using hq
    · simp -dsimp only [Vm.E, List.lookup, Nat.reduceAdd, Nat.reduceBEq, Int.reduceBNe, Int.reduceBEq, Bool.true_beq, Bool.false_beq]
      cases h0 : decide (n ≥ 0)
      · simp -dsimp only [Vm.E, List.lookup, Nat.reduceAdd, Nat.reduceBEq, Int.reduceBNe, Int.reduceBEq, Bool.true_beq, Bool.false_beq, Tryz.results235]
        have : ¬ 0 ≤ n := by have := of_decide_eq_false h0; omega
        simpa [h8, hs, this] using hq
      · have h0' : 0 ≤ n := by have := of_decide_eq_true h0; omega
        simp -dsimp only [Vm.E, List.lookup, Nat.reduceAdd, Nat.reduceBEq, Int.reduceBNe, Int.reduceBEq, Bool.true_beq, Bool.false_beq]
        have hk : ∃ k : Nat, k ≤ 7 ∧ size = k ∧ size.toNat = k := by
          rcases sized_cases hs with rfl | rfl | rfl | rfl
          · exact ⟨1, by decide, rfl, rfl⟩
          · exact ⟨2, by decide, rfl, rfl⟩
          · exact ⟨4, by decide, rfl, rfl⟩
          · cases h8
        obtain ⟨k, hk7, hk, hk2⟩ := hk
        refine call_one (S := powSpec) rfl _ (GaL.cons (.refl _) .nil) ⟨k, hk7, by rw [hk], ?_⟩
        simp -dsimp only [Vm.E, List.lookup, Nat.reduceAdd, Nat.reduceBEq, Int.reduceBNe, Int.reduceBEq, Bool.true_beq, Bool.false_beq, Tryz.results235]
        have e : ((256 : Int) ^ k) = ((256 ^ k : Nat) : Int) := by simp
        rw [hk2, e] at hq
        simpa [h8, hs, h0'] using hq
  · simp -dsimp only [Vm.E, List.lookup, Nat.reduceAdd, Nat.reduceBEq, Int.reduceBNe, Int.reduceBEq, Bool.true_beq, Bool.false_beq, h8, Tryz.results235]
    simpa [h8] using hq
theorem does_refPut : Does Tryz.prog 173 putSpec := by
  refine does_of_awp (good_cons does_refRight good_nil) Tryz.func173 rfl (by decide +kernel) (by decide +kernel) ?_
  rintro args h Q ⟨l, n, size, hl, hn0, hn1, rfl, hq⟩
  refine ⟨by simp [Tryz.f173], ?_⟩
  rw [awpFunc_some (by rfl)]
  simp -dsimp only [Vm.E, List.lookup, Nat.reduceAdd, Nat.reduceBEq, Int.reduceBNe, Int.reduceBEq, Bool.true_beq, Bool.false_beq, Tryz.underlying32, append_nil ei32]
  refine app_sl Tryz.underlying32 (fun c hc => by obtain ⟨y, -, rfl⟩ := List.mem_map.1 hc; rfl) ?_ ?_
  · simp only [List.length_map, List.length_nil]; omega
  simp -dsimp only [Vm.E, List.lookup, Nat.reduceAdd, Nat.reduceBEq, Int.reduceBNe, Int.reduceBEq, Bool.true_beq, Bool.false_beq]
  refine call_one (S := rightSpec) rfl _ GaL.rfl ⟨n, size, hn0, hn1, rfl, ?_⟩
  simp -dsimp only [Vm.E, List.lookup, Nat.reduceAdd, Nat.reduceBEq, Int.reduceBNe, Int.reduceBEq, Bool.true_beq, Bool.false_beq]
  unfold putOf at hq
  cases hf : fits n size
  · simp -dsimp only [Vm.E, List.lookup, Nat.reduceAdd, Nat.reduceBEq, Int.reduceBNe, Int.reduceBEq, Bool.true_beq, Bool.false_beq, Bool.not_false, Tryz.results173]
    simpa [hf] using hq
  · have hk : ∃ k : Nat, k ≤ 8 ∧ 1 ≤ k ∧ size = k ∧ size.toNat = k := by
      rcases sized_cases (fits_sized hf) with rfl | rfl | rfl | rfl
      · exact ⟨1, by decide, by decide, rfl, rfl⟩
      · exact ⟨2, by decide, by decide, rfl, rfl⟩
      · exact ⟨4, by decide, by decide, rfl, rfl⟩
      · exact ⟨8, by decide, by decide, rfl, rfl⟩
    obtain ⟨k, hk8, hk1, rfl, hk2⟩ := hk
    rw [hf, if_pos rfl, hk2] at hq
    simp -dsimp only [Vm.E, List.lookup, Nat.reduceAdd, Nat.reduceBEq, Int.reduceBNe, Int.reduceBEq, Bool.true_beq, Bool.false_beq, Bool.not_true]
    have e1 : IntKind.i64.wrap ((k : Int) - 1) = (k : Int) - 1 - 0 := by
      rw [wrap_i64 (by omega) (by omega)]; omega
    rw [e1]
    refine awp_loop (fun m s h' => ∃ i : Nat, i + m = k ∧ h' = h ∧ s = mk [(1, .v (.int .i64 n)), (7, .own true 5 1 ((l ++ (be k n).take i).map encB)), (8, .v (.int .i64 ((k : Int) - 1 - i)))])
      k _ (le_mk _ ?_) ⟨0, by omega, rfl, rfl⟩ ?_
    · simp [init_get]
    · rintro m s h' ⟨i, hi, rfl, rfl⟩
      simp -dsimp only [Vm.E, List.lookup, Nat.reduceAdd, Nat.reduceBEq, Int.reduceBNe, Int.reduceBEq, Bool.true_beq, Bool.false_beq]
      refine cond_intro (fun hc => ?_) (fun hc => ?_)
      · have hlt : i < k := by have := of_decide_eq_true hc; omega
        have ej : IntKind.i64.wrap (8 * ((k : Int) - 1 - i)) = ((8 * (k - 1 - i) : Nat) : Int) := by rw [wrap_i64 (by omega) (by omega)]; omega
        simp -dsimp only [Vm.E, List.lookup, Nat.reduceAdd, Nat.reduceBEq, Int.reduceBNe, Int.reduceBEq, Bool.true_beq, Bool.false_beq]
        rw [ej]
        refine shr_intro (by omega) ?_
        simp -dsimp only [Vm.E, List.lookup, Nat.reduceAdd, Nat.reduceBEq, Int.reduceBNe, Int.reduceBEq, Bool.true_beq, Bool.false_beq, cv3_5, byte_refPut n (k - 1 - i) (by omega), es32]
        refine bs_intro zr5 (by decide) (by decide) rfl rfl (by simp [solid, AV.cells]) ?_
        simp -dsimp only [Vm.E, List.lookup, Nat.reduceAdd, Nat.reduceBEq, Int.reduceBNe, Int.reduceBEq, Bool.true_beq, Bool.false_beq, append_own ei32]
        refine app_sl Tryz.underlying32 (by simp [AV.cells]) ?_ ?_
        · have : ((be k n).take i).length ≤ i := by simp only [List.length_take]; omega
          simp only [List.length_map, List.length_append, List.length_cons, List.length_nil]
          omega
        simp -dsimp only [Vm.E, List.lookup, Nat.reduceAdd, Nat.reduceBEq, Int.reduceBNe, Int.reduceBEq, Bool.true_beq, Bool.false_beq]
        refine kept_intro ⟨k - (i + 1), by omega, _, le_mk [(1, .v (.int .i64 n)), (7, .own true 5 1 ((l ++ (be k n).take (i + 1)).map encB)), (8, .v (.int .i64 ((k : Int) - 1 - (i + 1 : Nat))))] ?_, i + 1, by omega, rfl, rfl⟩
        simp only [List.forall_mem_cons, List.not_mem_nil, false_imp_iff, implies_true, and_true]
        simp -dsimp only [Vm.E, List.lookup, Nat.reduceAdd, Nat.reduceBEq, Int.reduceBNe, Int.reduceBEq, Bool.true_beq, Bool.false_beq]
        rw [wrap_i64 (by omega) (by omega), be_take hlt]
        have e2 : (k : Int) - 1 - i - 1 = (k : Int) - 1 - (i + 1 : Nat) := by omega
        rw [e2]
        have e3 : (l ++ (be k n).take i).map encB ++ [AV.v (.int .u8 ((byteOf n (k - 1 - i)).toNat : Int))] = (l ++ ((be k n).take i ++ [byteOf n (k - 1 - i)])).map encB := by simp [encB]
        rw [e3]
        exact ⟨.refl _, .refl _, .refl _⟩
      · have hge : ¬ i < k := by have := of_decide_eq_false hc; omega
        simp -dsimp only [Vm.E, List.lookup, Nat.reduceAdd, Nat.reduceBEq, Int.reduceBNe, Int.reduceBEq, Bool.true_beq, Bool.false_beq, Tryz.results173]
        have : i = k := by omega
        subst this
        rw [List.take_of_length_le (by simp [be])]
        exact hq
theorem idx_at (l : List UInt8) (n : Int) (i : Nat) (hn : n = i) (hi : i < l.length) {e : Nat} {K : AV → Prop} (hK : K (.eptr [.v (.int .u8 l[i].toNat)])) : awpIdx (some (e, 1)) (.sl 1 (l.map encB)) (.v (.int .i64 n)) K := by
  subst hn; exact idx_bytes l i hi hK
theorem does_refGet : Does Tryz.prog 250 getSpec := by
  refine does_of_awp (good_cons does_refSized good_nil) Tryz.func250 rfl (by decide +kernel) (by decide +kernel) ?_
  rintro args h Q ⟨l, at_, size, hl, hat, rfl, hq⟩
  refine ⟨by simp [Tryz.f250], ?_⟩
  rw [awpFunc_some (by rfl)]
  unfold getRes at hq
  simp -dsimp only [Vm.E, List.lookup, Nat.reduceAdd, Nat.reduceBEq, Int.reduceBNe, Int.reduceBEq, Bool.true_beq, Bool.false_beq]
  refine call_one (S := sizedSpec) rfl _ GaL.rfl ⟨_, rfl, ?_⟩
  simp -dsimp only [Vm.E, List.lookup, Nat.reduceAdd, Nat.reduceBEq, Int.reduceBNe, Int.reduceBEq, Bool.true_beq, Bool.false_beq]
  cases hs : sized size
  · simp -dsimp only [Vm.E, List.lookup, Nat.reduceAdd, Nat.reduceBEq, Int.reduceBNe, Int.reduceBEq, Bool.true_beq, Bool.false_beq, Bool.not_false, Tryz.results250]
    simpa [hs] using hq
  · have hk : ∃ k : Nat, k ≤ 8 ∧ 1 ≤ k ∧ size = k ∧ size.toNat = k := by
      rcases sized_cases hs with rfl | rfl | rfl | rfl
      · exact ⟨1, by decide, by decide, rfl, rfl⟩
      · exact ⟨2, by decide, by decide, rfl, rfl⟩
      · exact ⟨4, by decide, by decide, rfl, rfl⟩
      · exact ⟨8, by decide, by decide, rfl, rfl⟩
    obtain ⟨k, hk8, hk1, rfl, hk2⟩ := hk
    simp -dsimp only [Vm.E, List.lookup, Nat.reduceAdd, Nat.reduceBEq, Int.reduceBNe, Int.reduceBEq, Bool.true_beq, Bool.false_beq, Bool.not_true]
    cases h0 : decide (at_ < 0)
    · have h0' : ¬ at_ < 0 := of_decide_eq_false h0
      simp -dsimp only [Vm.E, List.lookup, Nat.reduceAdd, Nat.reduceBEq, Int.reduceBNe, Int.reduceBEq, Bool.true_beq, Bool.false_beq, Tryz.underlying32]
      rw [wrap_i64 (n := (l.length : Int) - k) (by omega) (by omega)]
      refine cond_intro (fun h2 => ?_) (fun h2 => ?_)
      · have h2' : at_ > (l.length : Int) - k := of_decide_eq_true h2
        simp -dsimp only [Vm.E, List.lookup, Nat.reduceAdd, Nat.reduceBEq, Int.reduceBNe, Int.reduceBEq, Bool.true_beq, Bool.false_beq, Tryz.results250]
        simpa [hs, h0', h2'] using hq
      · have h2' : ¬ at_ > (l.length : Int) - k := of_decide_eq_false h2
        simp -dsimp only [Vm.E, List.lookup, Nat.reduceAdd, Nat.reduceBEq, Int.reduceBNe, Int.reduceBEq, Bool.true_beq, Bool.false_beq]
        have hlen : ((l.drop at_.toNat).take k).length = k := by simp; omega
        obtain ⟨p, hp⟩ : ∃ p : Nat, at_ = p := ⟨at_.toNat, by omega⟩
        subst hp
        rw [Int.toNat_natCast] at hlen
        have hget : ∀ i (h : i < ((l.drop p).take k).length) (h2 : p + i < l.length), ((l.drop p).take k)[i] = l[p + i] := fun i h h2 => by simp
        generalize hb : (l.drop p).take k = b at hlen hget
        refine awp_loop (fun n s h' => ∃ i : Nat, i + n = k ∧ h' = h ∧ s = mk [(0, .sl 1 (l.map encB)), (1, .v (.int .i64 p)), (2, .v (.int .i64 k)), (8, .v (.int .i64 (getOf (b.take i)).toInt)), (9, .v (.int .i64 i))])
          k _ (le_mk _ ?_) ⟨0, by omega, rfl, rfl⟩ ?_
        · simp [init_get, getOf]
        · rintro n s h' ⟨i, hi, rfl, rfl⟩
          simp -dsimp only [Vm.E, List.lookup, Nat.reduceAdd, Nat.reduceBEq, Int.reduceBNe, Int.reduceBEq, Bool.true_beq, Bool.false_beq]
          refine cond_intro (fun hc => ?_) (fun hc => ?_)
          · have hlt : i < k := by have := of_decide_eq_true hc; omega
            simp -dsimp only [Vm.E, List.lookup, Nat.reduceAdd, Nat.reduceBEq, Int.reduceBNe, Int.reduceBEq, Bool.true_beq, Bool.false_beq]
            refine shl_intro (by decide) ?_
            rw [show min (Int.toNat 8) IntKind.i64.bits = 8 by decide, shl_i64]
            simp -dsimp only [Vm.E, List.lookup, Nat.reduceAdd, Nat.reduceBEq, Int.reduceBNe, Int.reduceBEq, Bool.true_beq, Bool.false_beq, es32, as32]
            refine idx_at l _ (p + i) (by rw [wrap_i64 (by omega) (by omega)]; omega) (by omega) ?_
            simp -dsimp only [Vm.E, List.lookup, Nat.reduceAdd, Nat.reduceBEq, Int.reduceBNe, Int.reduceBEq, Bool.true_beq, Bool.false_beq, of5, cv5_3, u8_i64, or_i64]
            refine kept_intro ⟨k - (i + 1), by omega, _, le_mk [(0, .sl 1 (l.map encB)), (1, .v (.int .i64 p)), (2, .v (.int .i64 k)), (8, .v (.int .i64 (getOf (b.take (i + 1))).toInt)), (9, .v (.int .i64 (i + 1 : Nat)))] ?_, i + 1, by omega, rfl, rfl⟩
            simp only [List.forall_mem_cons, List.not_mem_nil, false_imp_iff, implies_true, and_true]
            simp -dsimp only [Vm.E, List.lookup, Nat.reduceAdd, Nat.reduceBEq, Int.reduceBNe, Int.reduceBEq, Bool.true_beq, Bool.false_beq]
            rw [get_take b i (by omega), hget i (by omega) (by omega), wrap_i64 (by omega) (by omega)]
            exact ⟨.refl _, .refl _, .refl _, .refl _, .refl _⟩
          · have hge : ¬ i < k := by have := of_decide_eq_false hc; omega
            simp -dsimp only [Vm.E, List.lookup, Nat.reduceAdd, Nat.reduceBEq, Int.reduceBNe, Int.reduceBEq, Bool.true_beq, Bool.false_beq, Tryz.results250]
            rw [List.take_of_length_le (by omega)]
            simpa [hs, h0', h2', hk2, hb] using hq
    · have h0' : at_ < 0 := of_decide_eq_true h0
      simp -dsimp only [Vm.E, List.lookup, Nat.reduceAdd, Nat.reduceBEq, Int.reduceBNe, Int.reduceBEq, Bool.true_beq, Bool.false_beq, Tryz.results250]
      simpa [hs, h0'] using hq
end Go.Proofs.Lx
/- The reference's tables: plain laws. -/
set_option linter.unusedSimpArgs false
set_option linter.unusedVariables false
namespace Go.Proofs.Lx
open Go.Vm
theorem bytesLess_cb : ∀ a b : List UInt8, Op.bytesLess a b = decide (Lib.compareBytes a b < 0)
  | [], [] => by simp [Op.bytesLess, Lib.compareBytes]
  | _ :: _, [] => by simp [Op.bytesLess, Lib.compareBytes]
  | [], _ :: _ => by simp [Op.bytesLess, Lib.compareBytes]
  | a :: x, b :: y => by
    have ih := bytesLess_cb x y
    simp only [Op.bytesLess, Lib.compareBytes, ih]
    by_cases h1 : a < b
    · simp [h1]
    · by_cases h2 : b < a
      · have : a ≠ b := fun e => by subst e; exact h1 h2
        simp [h1, h2, this]
      · have : a = b := by
          apply UInt8.toNat_inj.1
          have h3 : ¬ a.toNat < b.toNat := fun h => h1 (UInt8.lt_iff_toNat_lt.2 h)
          have h4 : ¬ b.toNat < a.toNat := fun h => h2 (UInt8.lt_iff_toNat_lt.2 h)
          omega
        subst this
        simp [h1]
abbrev kLt (a b : List UInt8) : Prop := Lib.compareBytes a b < 0
theorem kLt_irrefl (a : List UInt8) : ¬ kLt a a := by unfold kLt; rw [cb_self]; decide
theorem kLt_tri {a b : List UInt8} (h1 : ¬ kLt a b) (h2 : a ≠ b) : kLt b a := Classical.byContradiction fun h => h2 (cb_eq _ _ h1 h)
def tfind (k : List UInt8) (l : List KV) : Option (List UInt8) := (l.find? fun p => p.1 == k).map Prod.snd
def tput (k v : List UInt8) : List KV → List KV
  | [] => [(k, v)]
  | p :: r => if kLt p.1 k then p :: tput k v r else if p.1 = k then (k, v) :: r else (k, v) :: p :: r
theorem tput_set (k v : List UInt8) : ∀ (l : List KV) (i : Nat) (hi : i < l.length), (∀ j (hj : j < i), kLt (l[j]'(by omega)).1 k) → l[i].1 = k → tput k v l = l.set i (k, v)
  | p :: r, 0, hi, _, he => by
    have he : p.1 = k := he
    have : ¬ kLt p.1 k := by rw [he]; exact kLt_irrefl k
    simp [tput, this, he, kLt_irrefl]
  | p :: r, i + 1, hi, hb, he => by
    have h0 : kLt p.1 k := hb 0 (by omega)
    have ih := tput_set k v r i (by simpa using hi) (fun j hj => hb (j + 1) (by omega)) he
    simp [tput, h0, ih]
theorem tput_ins (k v : List UInt8) : ∀ (l : List KV) (i : Nat) (hi : i ≤ l.length), (∀ j (hj : j < i), kLt (l[j]'(by omega)).1 k) → (∀ h : i < l.length, ¬ kLt l[i].1 k ∧ l[i].1 ≠ k) → tput k v l = l.take i ++ (k, v) :: l.drop i
  | [], i, hi, _, _ => by
    obtain rfl : i = 0 := by simpa using hi
    rfl
  | p :: r, 0, hi, _, he => by
    have := he (by simp)
    have h1 : ¬ kLt p.1 k := this.1
    have h2 : p.1 ≠ k := this.2
    simp [tput, h1, h2]
  | p :: r, i + 1, hi, hb, he => by
    have h0 : kLt p.1 k := hb 0 (by omega)
    have ih := tput_ins k v r i (by simpa using hi) (fun j hj => hb (j + 1) (by omega)) (fun h => he (by simpa using h))
    simp [tput, h0, ih]
theorem tput_length (k v : List UInt8) : ∀ l : List KV, (tput k v l).length ≤ l.length + 1
  | [] => by simp [tput]
  | p :: r => by
    have := tput_length k v r
    simp only [tput]
    split
    · simpa using this
    · split <;> simp
theorem tput_mem1 {k v : List UInt8} {q : KV} : ∀ {l : List KV}, q ∈ tput k v l → q = (k, v) ∨ q ∈ l
  | [], h => by simp [tput] at h; exact .inl h
  | p :: r, h => by
    simp only [tput] at h
    split at h
    · rcases List.mem_cons.1 h with h | h
      · exact .inr (h ▸ List.mem_cons_self ..)
      · rcases tput_mem1 h with h | h
        · exact .inl h
        · exact .inr (List.mem_cons_of_mem _ h)
    · split at h
      · rcases List.mem_cons.1 h with h | h
        · exact .inl h
        · exact .inr (List.mem_cons_of_mem _ h)
      · rcases List.mem_cons.1 h with h | h
        · exact .inl h
        · exact .inr h
theorem tput_sorted {k v : List UInt8} : ∀ {l : List KV}, l.Pairwise keyLt → (tput k v l).Pairwise keyLt
  | [], _ => by simp [tput]
  | p :: r, h => by
    have h' := List.pairwise_cons.1 h
    simp only [tput]
    split
    · rename_i hlt
      refine List.pairwise_cons.2 ⟨fun q hq => ?_, tput_sorted h'.2⟩
      rcases tput_mem1 hq with rfl | hq
      · exact hlt
      · exact h'.1 q hq
    · rename_i hlt
      split
      · rename_i he
        refine List.pairwise_cons.2 ⟨fun q hq => ?_, h'.2⟩
        have := h'.1 q hq
        show kLt k q.1
        rw [← he]; exact this
      · rename_i hne
        have hk := kLt_tri hlt hne
        refine List.pairwise_cons.2 ⟨fun q hq => ?_, h⟩
        rcases List.mem_cons.1 hq with rfl | hq
        · exact hk
        · exact cb_trans _ _ _ hk (h'.1 q hq)
theorem tput_mem {k v k' v' : List UInt8} : ∀ {l : List KV}, l.Pairwise keyLt → ((k', v') ∈ tput k v l ↔ if k' = k then v' = v else (k', v') ∈ l)
  | [], _ => by simp only [tput, List.mem_singleton, Prod.mk.injEq, List.not_mem_nil]; split <;> simp_all
  | p :: r, h => by
    have h' := List.pairwise_cons.1 h
    have ih := tput_mem (k := k) (v := v) (k' := k') (v' := v') h'.2
    have hnk : ∀ {k'}, ¬ kLt p.1 k' → (k', v') ∈ r → False := fun hn hm => hn (h'.1 _ hm)
    simp only [tput]
    split
    · rename_i hlt
      rw [List.mem_cons, ih]
      by_cases hk : k' = k
      · subst hk
        have : ¬ (k', v') = p := fun e => by rw [← e] at hlt; exact kLt_irrefl _ hlt
        simp [this]
      · simp [hk]
    · rename_i hlt
      split
      · rename_i he
        by_cases hk : k' = k
        · subst hk
          simp only [List.mem_cons, Prod.mk.injEq, true_and, if_true, or_iff_left_iff_imp]
          exact fun hm => (hnk hlt hm).elim
        · have : ¬ (k', v') = p := fun e => hk (by rw [← he, ← e])
          simp [hk, this]
      · rename_i hne
        by_cases hk : k' = k
        · subst hk
          have h3 : ¬ (k', v') = p := fun e => hne (by rw [← e])
          simp only [List.mem_cons, Prod.mk.injEq, true_and, if_true, or_iff_left_iff_imp]
          rintro (hm | hm)
          · exact (h3 hm).elim
          · exact (hnk hlt hm).elim
        · simp [hk]
theorem tfind_iff {k v : List UInt8} : ∀ {l : List KV}, l.Pairwise keyLt → (tfind k l = some v ↔ (k, v) ∈ l)
  | [], _ => by simp [tfind]
  | p :: r, h => by
    have h' := List.pairwise_cons.1 h
    have ih := tfind_iff (k := k) (v := v) h'.2
    unfold tfind at ih ⊢
    rw [List.find?_cons]
    cases hp : (p.1 == k)
    · have : p.1 ≠ k := by simpa using hp
      simp only [ih, List.mem_cons]
      have : ¬ (k, v) = p := fun e => this (by rw [← e])
      simp [this]
    · have hk : p.1 = k := by simpa using hp
      simp only [Option.map_some, Option.some.injEq, List.mem_cons]
      constructor
      · rintro rfl; exact .inl (by rw [← hk])
      · rintro (e | hm)
        · rw [← e]
        · exact absurd (h'.1 _ hm) (by show ¬ kLt p.1 k; rw [hk]; exact kLt_irrefl k)
/-- A table's pairs: what each key has. -/
def TabIs (f : Fun) (l : List KV) : Prop := l.Pairwise keyLt ∧ ∀ k v, (k, v) ∈ l ↔ f k = some v
theorem TabIs.find {f : Fun} {l : List KV} (h : TabIs f l) (k : List UInt8) : tfind k l = f k := by
  cases hx : tfind k l with
  | some v => exact ((h.2 k v).1 ((tfind_iff h.1).1 hx)).symm
  | none =>
    cases hy : f k with
    | none => rfl
    | some v =>
      have := (tfind_iff h.1).2 ((h.2 k v).2 hy)
      rw [hx] at this; cases this
theorem TabIs.put {f : Fun} {l : List KV} (h : TabIs f l) (k v : List UInt8) : TabIs (upd f k (some v)) (tput k v l) := by
  refine ⟨tput_sorted h.1, fun k' v' => ?_⟩
  rw [tput_mem h.1]
  show _ ↔ (if k' = k then some v else f k') = some v'
  by_cases hk : k' = k
  · simp only [hk, if_true, Option.some.injEq]; exact eq_comm
  · simp only [hk, if_false]; exact h.2 k' v'
theorem TabIs.new : TabIs noF [] := ⟨.nil, fun k v => by simp [noF]⟩
theorem TabIs.scan {f : Fun} {l : List KV} (h : TabIs f l) (pre : List UInt8) : ScanIs f pre (l.filter fun p => pre.isPrefixOf p.1) := by
  refine ⟨h.1.sublist List.filter_sublist, fun k v => ?_⟩
  rw [List.mem_filter, h.2]
/-- Two lists of the same pairs, both rising, are the same. -/
theorem sorted_same : ∀ {l l' : List KV}, l.Pairwise keyLt → l'.Pairwise keyLt → (∀ p, p ∈ l ↔ p ∈ l') → l = l'
  | [], [], _, _, _ => rfl
  | [], q :: r, _, _, h => by have := (h q).2 (List.mem_cons_self ..); cases this
  | p :: r, [], _, _, h => by have := (h p).1 (List.mem_cons_self ..); cases this
  | p :: r, q :: r', h1, h2, h => by
    have g1 := List.pairwise_cons.1 h1
    have g2 := List.pairwise_cons.1 h2
    have e : p = q := by
      rcases List.mem_cons.1 ((h p).1 (List.mem_cons_self ..)) with e | hm
      · exact e
      · rcases List.mem_cons.1 ((h q).2 (List.mem_cons_self ..)) with e | hm2
        · exact e.symm
        · exact absurd (g1.1 q hm2) (cb_asymm _ _ (g2.1 p hm))
    subst e
    congr 1
    refine sorted_same g1.2 g2.2 fun x => ?_
    have hx := h x
    simp only [List.mem_cons] at hx
    constructor
    · intro hm
      rcases hx.1 (.inr hm) with e | e
      · subst e; exact absurd (g1.1 x hm) (kLt_irrefl _)
      · exact e
    · intro hm
      rcases hx.2 (.inr hm) with e | e
      · subst e; exact absurd (g2.1 x hm) (kLt_irrefl _)
      · exact e
theorem ScanIs.same {f : Fun} {pre : List UInt8} {l l' : List KV} (h : ScanIs f pre l) (h' : ScanIs f pre l') : l = l' :=
  sorted_same h.1 h'.1 fun p => (h.2 p.1 p.2).trans (h'.2 p.1 p.2).symm
end Go.Proofs.Lx
/- The reference's tables, walked. -/
set_option linter.unusedSimpArgs false
set_option linter.unusedVariables false
namespace Go.Proofs.Lx
open Go.Vm
attribute [local irreducible] awpArr awpBin awpMake awpAppend awpCvX awpStrOf awpBinX awpSlice awpBS awpStore awpAlloc awpCopy awpIndex awpDraw awpIdxX awpFa awpField awpLookup awpUpdate awpDelete awpClear awpRange awpNext awpEntry awpBuild awpClearS awpIdxL awpTree appB
def rRightSpec : Vm.Spec := fun args h Q => ∃ k v : List UInt8, args = [.sl 1 (k.map encB), .sl 1 (v.map encB)] ∧ Q (.v (.bool (rightKV k v))) h
theorem does_rRight : Does Tryz.prog 171 rRightSpec := by
  refine does_of_awp good_nil Tryz.func171 rfl (by decide +kernel) (by decide +kernel) ?_
  rintro args h Q ⟨k, v, rfl, hq⟩
  refine ⟨by simp [Tryz.f171], ?_⟩
  rw [awpFunc_some (by rfl)]
  simp -dsimp only [Vm.E, List.lookup, Nat.reduceAdd, Nat.reduceBEq, Int.reduceBNe, Int.reduceBEq, Bool.true_beq, Bool.false_beq, Tryz.underlying32]
  by_cases d1 : 1 ≤ k.length
  · have c1 : decide ((k.length : Int) ≥ 1) = true := decide_eq_true (by omega)
    simp -dsimp only [Vm.E, List.lookup, Nat.reduceAdd, Nat.reduceBEq, Int.reduceBNe, Int.reduceBEq, Bool.true_beq, Bool.false_beq, c1, Tryz.underlying32]
    by_cases d2 : k.length ≤ 32
    · have c2 : decide ((k.length : Int) ≤ 32) = true := decide_eq_true (by omega)
      simp -dsimp only [Vm.E, List.lookup, Nat.reduceAdd, Nat.reduceBEq, Int.reduceBNe, Int.reduceBEq, Bool.true_beq, Bool.false_beq, c2, Tryz.underlying32, Tryz.results171]
      have : rightKV k v = decide ((v.length : Int) ≤ 120) := by
        unfold rightKV
        have e1 : ¬ k.length < 1 := by omega
        have e2 : ¬ 32 < k.length := by omega
        by_cases e : v.length ≤ 120
        · have : ¬ 120 < v.length := by omega
          have e3 : ((v.length : Int) ≤ 120) := by omega
          have e4 : ¬ ((120 : Int) < v.length) := by omega
          have e5 : ¬ ((32 : Int) < k.length) := by omega
          have e6 : ¬ ((k.length : Int) < 1) := by omega
          simp [e3, e4, e5, e6]
        · have e3 : ¬ ((v.length : Int) ≤ 120) := by omega
          have e4 : ((120 : Int) < v.length) := by omega
          simp [e3, e4]
      rw [← this]; exact hq
    · have c2 : decide ((k.length : Int) ≤ 32) = false := decide_eq_false (by omega)
      simp -dsimp only [Vm.E, List.lookup, Nat.reduceAdd, Nat.reduceBEq, Int.reduceBNe, Int.reduceBEq, Bool.true_beq, Bool.false_beq, c2, Tryz.underlying32, Tryz.results171]
      have : rightKV k v = false := by unfold rightKV; simp; omega
      rw [this] at hq; exact hq
  · have c1 : decide ((k.length : Int) ≥ 1) = false := decide_eq_false (by omega)
    simp -dsimp only [Vm.E, List.lookup, Nat.reduceAdd, Nat.reduceBEq, Int.reduceBNe, Int.reduceBEq, Bool.true_beq, Bool.false_beq, c1, Tryz.underlying32, Tryz.results171]
    have : rightKV k v = false := by unfold rightKV; simp; omega
    rw [this] at hq; exact hq
def tabObj (l : List KV) : AObj := .cells [.sl 2 (l.map kvAv)]
def tGetSpec : Vm.Spec := fun args h Q => ∃ (i : Nat) (l : List KV) (k : List UInt8), args = [.ptr i 0, .sl 1 (k.map encB)] ∧ h[i]? = some (tabObj l) ∧ l.length ≤ 1073741824 ∧ (∀ p ∈ l, p.2.length ≤ 1073741824) ∧
  (∀ v, tfind k l = some v → Q (.tup [.sl 1 (v.map encB), .v (.bool true)]) h) ∧ (tfind k l = none → Q (.tup [.v (.slice none 0 0), .v (.bool false)]) h)
theorem tfind_at {k : List UInt8} {l : List KV} {i : Nat} (hi : i < l.length) (hb : ∀ j (hj : j < i), (l[j]'(by omega)).1 ≠ k) (he : l[i].1 = k) : tfind k l = some l[i].2 := by
  unfold tfind
  have : l.find? (fun p => p.1 == k) = some l[i] := by
    rw [List.find?_eq_some_iff_getElem]
    exact ⟨by simpa using he, i, hi, rfl, fun j hj => by simpa using hb j hj⟩
  rw [this]; rfl
theorem tfind_no {k : List UInt8} {l : List KV} (hb : ∀ j (hj : j < l.length), l[j].1 ≠ k) : tfind k l = none := by
  unfold tfind
  rw [List.find?_eq_none.2 fun p hp => ?_]; rfl
  obtain ⟨j, hj, rfl⟩ := List.getElem_of_mem hp
  simpa using hb j hj
set_option maxRecDepth 20000 in
theorem does_tGet : Does Tryz.prog 197 tGetSpec := by
  refine does_of_awp good_nil Tryz.func197 rfl (by decide +kernel) (by decide +kernel) ?_
  rintro args h Q ⟨id, l, k, rfl, hh, hl, hvl, hq1, hq2⟩
  unfold tabObj at hh
  refine ⟨by simp [Tryz.f197], ?_⟩
  rw [awpFunc_some (by rfl)]
  simp -dsimp only [Vm.E, List.lookup, Nat.reduceAdd, Nat.reduceBEq, Int.reduceBNe, Int.reduceBEq, Bool.true_beq, Bool.false_beq]
  refine awp_loop (fun m s h' => ∃ i : Nat, i + m = l.length ∧ h' = h ∧ (∀ j (hj : j < l.length), j < i → l[j].1 ≠ k) ∧ s = mk [(0, .ptr id 0), (1, .sl 1 (k.map encB)), (6, .v (.int .i64 i))])
    l.length _ (le_mk _ ?_) ⟨0, by omega, rfl, fun j _ hj => by omega, rfl⟩ ?_
  · simp only [List.forall_mem_cons, List.not_mem_nil, false_imp_iff, implies_true, and_true]
    simp -dsimp only [Vm.E, List.lookup, Nat.reduceAdd, Nat.reduceBEq, Int.reduceBNe, Int.reduceBEq, Bool.true_beq, Bool.false_beq]
    exact ⟨.refl _, .refl _, .refl _⟩
  · rintro m s h' ⟨i, hi, rfl, hb, rfl⟩
    simp -dsimp only [Vm.E, List.lookup, Nat.reduceAdd, Nat.reduceBEq, Int.reduceBNe, Int.reduceBEq, Bool.true_beq, Bool.false_beq, fo139_0, hh, of65, Tryz.underlying65]
    refine cond_intro (fun hcc => ?_) (fun hcc => ?_)
    · have hlt : i < l.length := by have := of_decide_eq_true hcc; omega
      have hw : IntKind.i64.wrap ((i : Int) + 1) = ((i + 1 : Nat) : Int) := by rw [wrap_i64 (by omega) (by omega)]; simp
      obtain ⟨p, hp⟩ : ∃ p, l[i] = p := ⟨_, rfl⟩
      have hvp : p.2.length ≤ 1073741824 := hvl p (hp ▸ List.getElem_mem hlt)
      have hf1 : p.1 = k → tfind k l = some p.2 := fun e => by rw [← hp]; exact tfind_at hlt (fun j hj => hb j _ hj) (by rw [hp]; exact e)
      simp -dsimp only [Vm.E, List.lookup, Nat.reduceAdd, Nat.reduceBEq, Int.reduceBNe, Int.reduceBEq, Bool.true_beq, Bool.false_beq]
      refine draw_cont [] (.take 0 (.take 1 (.take 2 (.take 4 (.take 9 (.take 10 (.alt 3 (.take 5 (.take 6 (.take 7 (.take 8 (.take 11 (.done)))))) .stop))))))) (fun s h2 => h2 = h' ∧ s 27 = .v (.bool (p.1 == k)) ∧ s 0 = .ptr id 0 ∧ s 1 = .sl 1 (k.map encB) ∧ s 6 = .v (.int .i64 i)) (by kernel_rfl) (by kernel_rfl) (by kernel_rfl) (by decide) ?_ ?_
      · simp -dsimp only [Vm.G, List.lookup, Nat.reduceAdd, Nat.reduceBEq, Int.reduceBNe, Int.reduceBEq, Nat.reduceLeDiff, fo139_0, hh, of65, es65, as65, Tryz.underlying32, cs32]
        refine strOf_sl bt32 k rfl ?_
        simp -dsimp only [Vm.G, List.lookup, Nat.reduceAdd, Nat.reduceBEq, Int.reduceBNe, Int.reduceBEq, Nat.reduceLeDiff, fo139_0, hh, of65, es65, as65, Tryz.underlying32, cs32, fo155_0, fo155_1, of32, AV.cells, Tryz.underlying65]
        refine idx_map kvAv l i hlt ?_
        simp only [hp, kvAv]
        simp -dsimp only [Vm.G, List.lookup, Nat.reduceAdd, Nat.reduceBEq, Int.reduceBNe, Int.reduceBEq, Nat.reduceLeDiff, fo139_0, hh, of65, es65, as65, Tryz.underlying32, cs32, fo155_0, fo155_1, of32, AV.cells, Tryz.underlying65]
        refine strOf_sl bt32 p.1 rfl ?_
        simp -dsimp only [Vm.G, List.lookup, Nat.reduceAdd, Nat.reduceBEq, Int.reduceBNe, Int.reduceBEq, Nat.reduceLeDiff, fo139_0, hh, of65, es65, as65, Tryz.underlying32, cs32, fo155_0, fo155_1, of32, AV.cells, Tryz.underlying65]
        simp -dsimp only [Vm.E, List.lookup, Nat.reduceAdd, Nat.reduceBEq, Int.reduceBNe, Int.reduceBEq, Bool.true_beq, Bool.false_beq, str_eql, toList_mk]
      · rintro s h2 ⟨rfl, e27, e0, e1, e6⟩
        cases c1 : (p.1 == k)
        · rw [c1] at e27
          simp -dsimp only [Vm.E, List.lookup, Nat.reduceAdd, Nat.reduceBEq, Int.reduceBNe, Int.reduceBEq, Bool.true_beq, Bool.false_beq, e27, e6, hw]
          refine kept_intro ⟨l.length - (i + 1), by omega, _, le_mk [(0, .ptr id 0), (1, .sl 1 (k.map encB)), (6, .v (.int .i64 (i + 1 : Nat)))] ?_, i + 1, by omega, rfl, fun j hj hj2 => ?_, rfl⟩
          · simp only [List.forall_mem_cons, List.not_mem_nil, false_imp_iff, implies_true, and_true]
            simp -dsimp only [Vm.E, List.lookup, Nat.reduceAdd, Nat.reduceBEq, Int.reduceBNe, Int.reduceBEq, Bool.true_beq, Bool.false_beq, e0, e1]
            exact ⟨.refl _, .refl _, .refl _⟩
          · by_cases hji : j = i
            · subst hji; rw [hp]; simpa using c1
            · exact hb j hj (by omega)
        · rw [c1] at e27
          have hf := hq1 _ (hf1 (by simpa using c1))
          simp -dsimp only [Vm.E, List.lookup, Nat.reduceAdd, Nat.reduceBEq, Int.reduceBNe, Int.reduceBEq, Bool.true_beq, Bool.false_beq, e27, e6, e0, e1, Vm.S, Nat.reduceLeDiff, fo139_0, hh, of65, es65, as65, Tryz.underlying32, cs32, fo155_0, fo155_1, of32, AV.cells, Tryz.underlying65]
          refine idx_map kvAv l i hlt ?_
          simp only [hp, kvAv]
          simp -dsimp only [Vm.E, List.lookup, Nat.reduceAdd, Nat.reduceBEq, Int.reduceBNe, Int.reduceBEq, Bool.true_beq, Bool.false_beq, e27, e6, e0, e1, Vm.S, Nat.reduceLeDiff, fo139_0, hh, of65, es65, as65, Tryz.underlying32, cs32, fo155_0, fo155_1, of32, AV.cells, Tryz.underlying65]
          simp -dsimp only [Vm.E, List.lookup, Nat.reduceAdd, Nat.reduceBEq, Int.reduceBNe, Int.reduceBEq, Bool.true_beq, Bool.false_beq, e27, e6, e0, e1, append_nil ei32]
          refine app_sl Tryz.underlying32 (fun c hc => by obtain ⟨y, -, rfl⟩ := List.mem_map.1 hc; rfl) (by simp only [List.length_map, List.length_nil]; omega) ?_
          simp -dsimp only [Vm.E, List.lookup, Nat.reduceAdd, Nat.reduceBEq, Int.reduceBNe, Int.reduceBEq, Bool.true_beq, Bool.false_beq, e27, e6, e0, e1, Tryz.results197]
          exact hf
    · have hge : ¬ i < l.length := by have := of_decide_eq_false hcc; omega
      simp -dsimp only [Vm.E, List.lookup, Nat.reduceAdd, Nat.reduceBEq, Int.reduceBNe, Int.reduceBEq, Bool.true_beq, Bool.false_beq, Tryz.results197]
      exact hq2 (tfind_no fun j hj => hb j hj (by omega))
theorem str_lss {t : TypeId} {a b : ByteArray} {KV : Value → Prop} : awpBin Tryz.prog .lss t (.v (.string a)) (.v (.string b)) KV = KV (.bool (Op.bytesLess a.toList b.toList)) := by simp [awpBin]
def lessAt (l : List KV) (i : Nat) (k : List UInt8) : Bool := (l[i]?.map fun p => decide (kLt p.1 k)).getD false
def sameAt (l : List KV) (i : Nat) (k : List UInt8) : Bool := (l[i]?.map fun p => p.1 == k).getD false
theorem lessAt_true {l : List KV} {i : Nat} {k : List UInt8} (h : lessAt l i k = true) : ∃ hi : i < l.length, kLt l[i].1 k := by
  unfold lessAt at h
  by_cases hi : i < l.length
  · rw [List.getElem?_eq_getElem hi] at h; exact ⟨hi, by simpa using h⟩
  · rw [List.getElem?_eq_none (by omega)] at h; cases h
theorem sameAt_true {l : List KV} {i : Nat} {k : List UInt8} (h : sameAt l i k = true) : ∃ hi : i < l.length, l[i].1 = k := by
  unfold sameAt at h
  by_cases hi : i < l.length
  · rw [List.getElem?_eq_getElem hi] at h; exact ⟨hi, by simpa using h⟩
  · rw [List.getElem?_eq_none (by omega)] at h; cases h
theorem tput_at {k v : List UInt8} {l : List KV} {i : Nat} (hi : i ≤ l.length) (hb : ∀ j (hj : j < l.length), j < i → kLt l[j].1 k) (h1 : lessAt l i k = false) (h2 : sameAt l i k = false) : tput k v l = l.take i ++ (k, v) :: l.drop i := by
  refine tput_ins k v l i hi (fun j hj => hb j _ hj) fun h => ?_
  unfold lessAt at h1; unfold sameAt at h2
  rw [List.getElem?_eq_getElem h] at h1 h2
  exact ⟨by simpa using h1, by simpa using h2⟩
def tPutSpec : Vm.Spec := fun args h Q => ∃ (i : Nat) (l : List KV) (k v : List UInt8), args = [.ptr i 0, .sl 1 (k.map encB), .sl 1 (v.map encB)] ∧ h[i]? = some (tabObj l) ∧ l.length ≤ 1073741824 ∧ k.length ≤ 1073741824 ∧ v.length ≤ 1073741824 ∧
  Q (.tup []) (h.set i (tabObj (tput k v l)))
set_option maxRecDepth 20000 in
set_option maxHeartbeats 16000000 in
theorem does_tPut : Does Tryz.prog 172 tPutSpec := by
  refine does_of_awp good_nil Tryz.func172 rfl (by decide +kernel) (by decide +kernel) ?_
  rintro args h Q ⟨id, l, k, v, rfl, hh, hl, hkl, hvl, hq⟩
  unfold tabObj at hh hq
  refine ⟨by simp [Tryz.f172], ?_⟩
  rw [awpFunc_some (by rfl)]
  simp -dsimp only [Vm.E, List.lookup, Nat.reduceAdd, Nat.reduceBEq, Int.reduceBNe, Int.reduceBEq, Bool.true_beq, Bool.false_beq, append_nil ei32]
  refine app_sl Tryz.underlying32 (fun c hc => by obtain ⟨y, -, rfl⟩ := List.mem_map.1 hc; rfl) (by simp only [List.length_map, List.length_nil]; omega) ?_
  simp -dsimp only [Vm.E, List.lookup, Nat.reduceAdd, Nat.reduceBEq, Int.reduceBNe, Int.reduceBEq, Bool.true_beq, Bool.false_beq, append_nil ei32]
  refine app_sl Tryz.underlying32 (fun c hc => by obtain ⟨y, -, rfl⟩ := List.mem_map.1 hc; rfl) (by simp only [List.length_map, List.length_nil]; omega) ?_
  simp -dsimp only [Vm.G, List.lookup, Nat.reduceAdd, Nat.reduceBEq, Int.reduceBNe, Int.reduceBEq, Nat.reduceLeDiff, List.nil_append, bd155, al155, sz155]
  refine awp_loop (fun m s h' => ∃ i : Nat, i + m = l.length ∧ h' = h ∧ (∀ j (hj : j < l.length), j < i → kLt l[j].1 k) ∧ s = mk [(0, .ptr id 0), (1, .sl 1 (k.map encB)), (6, .box [.sl 1 (k.map encB), .sl 1 (v.map encB)]), (7, .v (.int .i64 i))])
    l.length _ (le_mk _ ?_) ⟨0, by omega, rfl, fun j _ hj => by omega, rfl⟩ ?_
  · simp only [List.forall_mem_cons, List.not_mem_nil, false_imp_iff, implies_true, and_true]
    simp -dsimp only [Vm.E, List.lookup, Nat.reduceAdd, Nat.reduceBEq, Int.reduceBNe, Int.reduceBEq, Bool.true_beq, Bool.false_beq]
    exact ⟨.refl _, .refl _, .refl _, .refl _⟩
  · rintro m s h' ⟨i, hi, rfl, hb, rfl⟩
    simp -dsimp only [Vm.E, List.lookup, Nat.reduceAdd, Nat.reduceBEq, Int.reduceBNe, Int.reduceBEq, Bool.true_beq, Bool.false_beq]
    have hw : i < l.length → IntKind.i64.wrap ((i : Int) + 1) = ((i + 1 : Nat) : Int) := fun hlt => by rw [wrap_i64 (by omega) (by omega)]; simp
    refine draw_cont [] (.take 0 (.take 1 (.take 2 (.take 3 (.alt 4 (.take 5 (.take 6 (.take 7 (.take 8 (.take 9 (.take 10 (.take 12 (.take 17 (.alt 11 (.take 13 (.take 14 (.alt 15 (.alt 16 (.alt 18 (.take 19 (.take 20 (.done))) .stop) (.alt 18 (.alt 16 (.take 19 (.take 20 (.done))) .stop) (.stop))) (.alt 18 (.alt 15 (.alt 16 (.take 19 (.take 20 (.done))) .stop) .stop) (.stop))))) (.alt 18 (.alt 11 (.take 13 (.take 14 (.alt 15 (.alt 16 (.take 19 (.take 20 (.done))) .stop) .stop))) .stop) (.stop))))))))))) .stop))))) (fun s hx => hx = h' ∧ s 34 = .v (.bool (lessAt l i k)) ∧ s 0 = .ptr id 0 ∧ s 1 = .sl 1 (k.map encB) ∧ s 6 = .box [.sl 1 (k.map encB), .sl 1 (v.map encB)] ∧ s 7 = .v (.int .i64 i)) (by kernel_rfl) (by kernel_rfl) (by kernel_rfl) (by decide) ?_ ?_
    · by_cases hlt : i < l.length
      · have c1 : decide ((i : Int) < l.length) = true := decide_eq_true (by omega)
        obtain ⟨p, hp⟩ : ∃ p, l[i] = p := ⟨_, rfl⟩
        have hv : (lessAt l i k) = decide (kLt p.1 k) := by unfold lessAt; rw [List.getElem?_eq_getElem hlt, hp]; rfl
        simp only [hv]
        repeat' first
          | with_reducible exact True.intro
          | simp -dsimp only [Vm.G, List.lookup, Nat.reduceAdd, Nat.reduceBEq, Int.reduceBNe, Int.reduceBEq, Nat.reduceLeDiff, fo139_0, hh, of65, es65, as65, Tryz.underlying32, cs32, fo155_0, fo155_1, of32, AV.cells, Tryz.underlying65, c1, str_eql, str_lss, toList_mk, bytesLess_cb]
          | refine strOf_sl bt32 k rfl ?_
          | refine strOf_sl bt32 p.1 rfl ?_
          | (refine idx_map kvAv l i hlt ?_; simp only [hp, kvAv])
          | refine tree_alt ?_ ?_
      · have c1 : decide ((i : Int) < l.length) = false := decide_eq_false (by omega)
        have hv : (lessAt l i k) = false := by unfold lessAt; rw [List.getElem?_eq_none (by omega)]; rfl
        simp only [hv]
        repeat' first
          | with_reducible exact True.intro
          | simp -dsimp only [Vm.G, List.lookup, Nat.reduceAdd, Nat.reduceBEq, Int.reduceBNe, Int.reduceBEq, Nat.reduceLeDiff, fo139_0, hh, of65, es65, as65, Tryz.underlying32, cs32, fo155_0, fo155_1, of32, AV.cells, Tryz.underlying65, c1]
          | refine tree_alt ?_ ?_
    · rintro s h2 ⟨rfl, e34, e0, e1, e6, e7⟩
      cases hb2 : lessAt l i k
      · rw [hb2] at e34
        simp -dsimp only [Vm.E, List.lookup, Nat.reduceAdd, Nat.reduceBEq, Int.reduceBNe, Int.reduceBEq, Bool.true_beq, Bool.false_beq, e34, e0, e1, e6, e7]
        refine draw_cont [] (.take 0 (.take 1 (.take 2 (.take 3 (.alt 4 (.take 5 (.take 6 (.take 7 (.take 8 (.take 9 (.take 10 (.take 12 (.take 17 (.alt 11 (.take 13 (.take 14 (.alt 15 (.alt 16 (.alt 18 (.take 19 (.take 20 (.done))) .stop) (.alt 18 (.alt 16 (.take 19 (.take 20 (.done))) .stop) (.stop))) (.alt 18 (.alt 15 (.alt 16 (.take 19 (.take 20 (.done))) .stop) .stop) (.stop))))) (.alt 18 (.alt 11 (.take 13 (.take 14 (.alt 15 (.alt 16 (.take 19 (.take 20 (.done))) .stop) .stop))) .stop) (.stop))))))))))) .stop))))) (fun s hx => hx = h2 ∧ s 57 = .v (.bool (sameAt l i k)) ∧ s 0 = .ptr id 0 ∧ s 1 = .sl 1 (k.map encB) ∧ s 6 = .box [.sl 1 (k.map encB), .sl 1 (v.map encB)] ∧ s 7 = .v (.int .i64 i)) (by kernel_rfl) (by kernel_rfl) (by kernel_rfl) (by decide) ?_ ?_
        · by_cases hlt : i < l.length
          · have c1 : decide ((i : Int) < l.length) = true := decide_eq_true (by omega)
            obtain ⟨p, hp⟩ : ∃ p, l[i] = p := ⟨_, rfl⟩
            have hv : (sameAt l i k) = (p.1 == k) := by unfold sameAt; rw [List.getElem?_eq_getElem hlt, hp]; rfl
            simp only [hv]
            repeat' first
              | with_reducible exact True.intro
              | simp -dsimp only [Vm.G, List.lookup, Nat.reduceAdd, Nat.reduceBEq, Int.reduceBNe, Int.reduceBEq, Nat.reduceLeDiff, fo139_0, hh, of65, es65, as65, Tryz.underlying32, cs32, fo155_0, fo155_1, of32, AV.cells, Tryz.underlying65, c1, str_eql, str_lss, toList_mk, bytesLess_cb, e34, e0, e1, e6, e7]
              | refine strOf_sl bt32 k rfl ?_
              | refine strOf_sl bt32 p.1 rfl ?_
              | (refine idx_map kvAv l i hlt ?_; simp only [hp, kvAv])
              | refine tree_alt ?_ ?_
          · have c1 : decide ((i : Int) < l.length) = false := decide_eq_false (by omega)
            have hv : (sameAt l i k) = false := by unfold sameAt; rw [List.getElem?_eq_none (by omega)]; rfl
            simp only [hv]
            repeat' first
              | with_reducible exact True.intro
              | simp -dsimp only [Vm.G, List.lookup, Nat.reduceAdd, Nat.reduceBEq, Int.reduceBNe, Int.reduceBEq, Nat.reduceLeDiff, fo139_0, hh, of65, es65, as65, Tryz.underlying32, cs32, fo155_0, fo155_1, of32, AV.cells, Tryz.underlying65, c1, e34, e0, e1, e6, e7]
              | refine tree_alt ?_ ?_
        · rintro s3 h3 ⟨rfl, e57, f0, f1, f6, f7⟩
          clear e34 e0 e1 e6 e7
          cases hb4 : sameAt l i k
          · rw [hb4] at e57
            simp -dsimp only [Vm.E, List.lookup, Nat.reduceAdd, Nat.reduceBEq, Int.reduceBNe, Int.reduceBEq, Bool.true_beq, Bool.false_beq, e57, f0, f1, f6, f7]
            have hput := tput_at (k := k) (v := v) (by omega) hb hb2 hb4
            have hil : i ≤ l.length := by omega
            have e1 : (l.map kvAv).take (i : Int).toNat = (l.take i).map kvAv := by rw [Int.toNat_natCast, List.map_take]
            have e2 : (l.map kvAv).drop (i : Int).toNat = (l.drop i).map kvAv := by rw [Int.toNat_natCast, List.map_drop]
            have hu : ∀ (l : List KV), ∀ c ∈ l.map kvAv, c.cells.length = 2 := fun l c hc => by obtain ⟨y, -, rfl⟩ := List.mem_map.1 hc; rfl
            have hfin : (l.take i).map kvAv ++ [AV.agg [.sl 1 (k.map encB), .sl 1 (v.map encB)]] ++ (l.drop i).map kvAv = (tput k v l).map kvAv := by rw [hput]; simp [kvAv]
            refine draw_cont [6] (.take 0 (.take 1 (.take 2 (.take 3 (.take 5 (.take 8 (.take 11 (.take 12 (.take 13 (.take 15 (.alt 4 (.take 6 (.alt 7 (.alt 9 (.alt 10 (.alt 14 (.take 16 (.alt 17 (.take 18 (.take 19 (.alt 20 (.done) .stop))) .stop)) .stop) (.alt 14 (.take 16 (.alt 10 (.alt 17 (.take 18 (.take 19 (.alt 20 (.done) .stop))) .stop) .stop)) (.stop))) (.alt 14 (.take 16 (.alt 9 (.alt 10 (.alt 17 (.take 18 (.take 19 (.alt 20 (.done) .stop))) .stop) .stop) .stop)) (.stop))) (.alt 9 (.alt 7 (.alt 10 (.alt 14 (.take 16 (.alt 17 (.take 18 (.take 19 (.alt 20 (.done) .stop))) .stop)) .stop) (.alt 14 (.take 16 (.alt 10 (.alt 17 (.take 18 (.take 19 (.alt 20 (.done) .stop))) .stop) .stop)) (.stop))) (.alt 14 (.take 16 (.alt 7 (.alt 10 (.alt 17 (.take 18 (.take 19 (.alt 20 (.done) .stop))) .stop) .stop) .stop)) (.stop))) (.alt 14 (.take 16 (.alt 7 (.alt 9 (.alt 10 (.alt 17 (.take 18 (.take 19 (.alt 20 (.done) .stop))) .stop) .stop) .stop) (.alt 9 (.alt 7 (.alt 10 (.alt 17 (.take 18 (.take 19 (.alt 20 (.done) .stop))) .stop) .stop) .stop) (.stop)))) (.stop))))) (.alt 9 (.alt 4 (.take 6 (.alt 7 (.alt 10 (.alt 14 (.take 16 (.alt 17 (.take 18 (.take 19 (.alt 20 (.done) .stop))) .stop)) .stop) (.alt 14 (.take 16 (.alt 10 (.alt 17 (.take 18 (.take 19 (.alt 20 (.done) .stop))) .stop) .stop)) (.stop))) (.alt 14 (.take 16 (.alt 7 (.alt 10 (.alt 17 (.take 18 (.take 19 (.alt 20 (.done) .stop))) .stop) .stop) .stop)) (.stop)))) (.alt 14 (.take 16 (.alt 4 (.take 6 (.alt 7 (.alt 10 (.alt 17 (.take 18 (.take 19 (.alt 20 (.done) .stop))) .stop) .stop) .stop)) .stop)) (.stop))) (.alt 14 (.take 16 (.alt 4 (.take 6 (.alt 7 (.alt 9 (.alt 10 (.alt 17 (.take 18 (.take 19 (.alt 20 (.done) .stop))) .stop) .stop) .stop) (.alt 9 (.alt 7 (.alt 10 (.alt 17 (.take 18 (.take 19 (.alt 20 (.done) .stop))) .stop) .stop) .stop) (.stop)))) (.alt 9 (.alt 4 (.take 6 (.alt 7 (.alt 10 (.alt 17 (.take 18 (.take 19 (.alt 20 (.done) .stop))) .stop) .stop) .stop)) .stop) (.stop)))) (.stop)))))))))))))) (fun s hx => hx = h3.set id (tabObj (tput k v l))) (by kernel_rfl) (by kernel_rfl) (by kernel_rfl) (by decide) ?_ ?_
            · clear hq hb hw
              repeat' first
                | with_reducible exact True.intro
                | simp -dsimp only [Vm.G, List.lookup, Nat.reduceAdd, Nat.reduceBEq, Int.reduceBNe, Int.reduceBEq, Nat.reduceLeDiff, fo139_0, hh, of65, es65, as65, Tryz.underlying32, cs32, fo155_0, fo155_1, of32, AV.cells, Tryz.underlying65, f0, f1, f6, f7, e1, e2, List.nil_append, of155, append_nil ei65, append_own ei65, hfin, tabObj, sz65]
                | refine tree_alt ?_ ?_
                | refine slice_h es65 (by omega) (by rw [List.length_map]; omega) ?_
                | refine slice_l es65 (by omega) (by rw [List.length_map]; omega) ?_
                | refine bs_intro zr155 (by decide) (by decide) rfl rfl (by simp [solid, AV.cells]) ?_
                | refine app_sl Tryz.underlying65 (hu _) (by simp only [List.length_map, List.length_nil, List.length_append, List.length_cons, List.length_take, List.length_drop]; omega) ?_
                | refine app_sl Tryz.underlying65 (by simp [AV.cells]) (by simp only [List.length_map, List.length_nil, List.length_append, List.length_cons, List.length_take, List.length_drop]; omega) ?_
            · rintro s4 h4 rfl
              simp -dsimp only [Vm.E, List.lookup, Nat.reduceAdd, Nat.reduceBEq, Int.reduceBNe, Int.reduceBEq, Bool.true_beq, Bool.false_beq, Tryz.results172]
              exact hq
          · rw [hb4] at e57
            obtain ⟨hlt, heq⟩ := sameAt_true hb4
            have hset := tput_set k v l i hlt (fun j hj => hb j _ hj) heq
            simp -dsimp only [Vm.G, List.lookup, Nat.reduceAdd, Nat.reduceBEq, Int.reduceBNe, Int.reduceBEq, Nat.reduceLeDiff, fo139_0, hh, of65, es65, as65, Tryz.underlying32, cs32, fo155_0, fo155_1, of32, AV.cells, Tryz.underlying65, e57, f0, f1, f6, f7, append_nil ei65]
            refine app_sl Tryz.underlying65 (fun c hc => by obtain ⟨y, -, rfl⟩ := List.mem_map.1 hc; rfl) (by simp only [List.length_map, List.length_nil]; omega) ?_
            simp -dsimp only [Vm.G, List.lookup, Nat.reduceAdd, Nat.reduceBEq, Int.reduceBNe, Int.reduceBEq, Nat.reduceLeDiff, fo139_0, hh, of65, es65, as65, Tryz.underlying32, cs32, fo155_0, fo155_1, of32, AV.cells, Tryz.underlying65, e57, f0, f1, f6, f7, List.nil_append, of155]
            refine idxO_intro (by omega) (by simp; omega) ?_
            simp -dsimp only [Vm.G, List.lookup, Nat.reduceAdd, Nat.reduceBEq, Int.reduceBNe, Int.reduceBEq, Nat.reduceLeDiff, fo139_0, hh, of65, es65, as65, Tryz.underlying32, cs32, fo155_0, fo155_1, of32, AV.cells, Tryz.underlying65, e57, f0, f1, f6, f7, of155, sz155, Int.toNat_natCast]
            have hre : (l.map kvAv).set i (.agg [.sl 1 (k.map encB), .sl 1 (v.map encB)]) = (tput k v l).map kvAv := by rw [hset, List.map_set]; rfl
            refine store_elt 155 (l.map kvAv) (by simp -dsimp only [Vm.E, List.lookup, Nat.reduceAdd, Nat.reduceBEq, Int.reduceBNe, Int.reduceBEq, Bool.true_beq, Bool.false_beq]) (y := kvAv l[i]) (by rw [List.getElem?_map, List.getElem?_eq_getElem hlt]; rfl) rfl rfl (by omega) rfl ?_
            simp only [kvAv, AV.cells, putCells, reCell, List.take_zero, List.nil_append, List.length_cons, List.length_nil, Nat.zero_add, Nat.reduceAdd, List.drop_succ_cons, List.drop_zero, List.append_nil, List.drop_nil]
            simp -dsimp only [Vm.G, List.lookup, Nat.reduceAdd, Nat.reduceBEq, Int.reduceBNe, Int.reduceBEq, Nat.reduceLeDiff, fo139_0, hh, of65, es65, as65, AV.cells, Tryz.underlying65, f0, f1, f6, f7, hre, sz65, Tryz.results172]
            exact hq
      · rw [hb2] at e34
        obtain ⟨hlt, hk⟩ := lessAt_true hb2
        simp -dsimp only [Vm.E, List.lookup, Nat.reduceAdd, Nat.reduceBEq, Int.reduceBNe, Int.reduceBEq, Bool.true_beq, Bool.false_beq, e34, e0, e1, e6, e7]
        refine kept_intro ⟨l.length - (i + 1), by omega, _, le_mk [(0, .ptr id 0), (1, .sl 1 (k.map encB)), (6, .box [.sl 1 (k.map encB), .sl 1 (v.map encB)]), (7, .v (.int .i64 (i + 1 : Nat)))] ?_, i + 1, by omega, rfl, fun j hj hj2 => ?_, rfl⟩
        · simp only [List.forall_mem_cons, List.not_mem_nil, false_imp_iff, implies_true, and_true]
          simp -dsimp only [Vm.E, List.lookup, Nat.reduceAdd, Nat.reduceBEq, Int.reduceBNe, Int.reduceBEq, Bool.true_beq, Bool.false_beq, e0, e1, e6, e7, hw hlt]
          exact ⟨.refl _, .refl _, .refl _, .refl _⟩
        · by_cases hji : j = i
          · subst hji; exact hk
          · exact hb j hj (by omega)
end Go.Proofs.Lx
/- The reference's records: ref17, ref18. -/
set_option linter.unusedSimpArgs false
set_option linter.unusedVariables false
namespace Go.Proofs.Lx
open Go.Vm
attribute [local irreducible] awpArr awpBin awpMake awpAppend awpCvX awpStrOf awpBinX awpSlice awpBS awpStore awpAlloc awpCopy awpIndex awpDraw awpIdxX awpFa awpField awpLookup awpUpdate awpDelete awpClear awpRange awpNext awpEntry awpBuild awpClearS awpIdxL
theorem does_rPack : Does Tryz.prog 195 packSpec := by
  refine does_of_awp (good_cons does_refPut good_nil) Tryz.func195 rfl (by decide +kernel) (by decide +kernel) ?_
  rintro args h Q ⟨l, hl, hn, rfl, hq⟩
  refine ⟨by simp [Tryz.f195], ?_⟩
  rw [awpFunc_some (by rfl)]
  simp -dsimp only [Vm.E, List.lookup, Nat.reduceAdd, Nat.reduceBEq, Int.reduceBNe, Int.reduceBEq, Bool.true_beq, Bool.false_beq]
  refine awp_loop (fun m s h' => ∃ i : Nat, i + m = (l.take 15).length ∧ h' = h ∧ s = mk [(0, .sl 1 (l.map encI)), (3, .own true 5 1 ((packs 8 (l.take i)).map encB)), (4, .v (.int .i64 i))])
    (l.take 15).length _ (le_mk _ ?_) ⟨0, by omega, rfl, rfl⟩ ?_
  · simp only [List.forall_mem_cons, List.not_mem_nil, false_imp_iff, implies_true, and_true]
    simp -dsimp only [Vm.E, List.lookup, Nat.reduceAdd, Nat.reduceBEq, Int.reduceBNe, Int.reduceBEq, Bool.true_beq, Bool.false_beq]
    exact ⟨.refl _, .nil _ _ _ (by decide), .refl _⟩
  · rintro m s h' ⟨i, hi, rfl, rfl⟩
    have hlen : (l.take 15).length = min 15 l.length := List.length_take ..
    simp -dsimp only [Vm.E, List.lookup, Nat.reduceAdd, Nat.reduceBEq, Int.reduceBNe, Int.reduceBEq, Bool.true_beq, Bool.false_beq, Tryz.underlying28]
    by_cases a1 : i < l.length
    · have c1 : decide ((i : Int) < l.length) = true := decide_eq_true (by omega)
      simp -dsimp only [Vm.E, List.lookup, Nat.reduceAdd, Nat.reduceBEq, Int.reduceBNe, Int.reduceBEq, Bool.true_beq, Bool.false_beq, c1]
      by_cases a2 : i < 15
      · have c2 : decide ((i : Int) < 15) = true := decide_eq_true (by omega)
        simp -dsimp only [Vm.E, List.lookup, Nat.reduceAdd, Nat.reduceBEq, Int.reduceBNe, Int.reduceBEq, Bool.true_beq, Bool.false_beq, c2, es28, as28]
        refine idx_ints l i a1 ?_
        simp -dsimp only [Vm.E, List.lookup, Nat.reduceAdd, Nat.reduceBEq, Int.reduceBNe, Int.reduceBEq, Bool.true_beq, Bool.false_beq, of3]
        have hb := packs_length 8 (l.take i)
        have hti : (l.take i).length ≤ i := by rw [List.length_take]; omega
        have hr := hn l[i] (List.getElem_mem a1)
        have hw : IntKind.i64.wrap ((i : Int) + 1) = ((i + 1 : Nat) : Int) := by rw [wrap_i64 (by omega) (by omega)]; simp
        refine call_one (S := putSpec) rfl _ GaL.rfl ⟨packs 8 (l.take i), l[i], 8, by omega, hr.1, hr.2, rfl, ?_⟩
        simp only [putOf8, ← packs_take 8 l i a1]
        simp -dsimp only [Vm.E, List.lookup, Nat.reduceAdd, Nat.reduceBEq, Int.reduceBNe, Int.reduceBEq, Bool.true_beq, Bool.false_beq]
        refine kept_intro ⟨(l.take 15).length - (i + 1), by omega, _, le_mk [(0, .sl 1 (l.map encI)), (3, .own true 5 1 ((packs 8 (l.take (i + 1))).map encB)), (4, .v (.int .i64 (i + 1 : Nat)))] ?_, i + 1, by omega, rfl, rfl⟩
        simp only [List.forall_mem_cons, List.not_mem_nil, false_imp_iff, implies_true, and_true]
        simp -dsimp only [Vm.E, List.lookup, Nat.reduceAdd, Nat.reduceBEq, Int.reduceBNe, Int.reduceBEq, Bool.true_beq, Bool.false_beq, hw]
        exact ⟨.refl _, .refl _, .refl _⟩
      · have c2 : decide ((i : Int) < 15) = false := decide_eq_false (by omega)
        simp -dsimp only [Vm.E, List.lookup, Nat.reduceAdd, Nat.reduceBEq, Int.reduceBNe, Int.reduceBEq, Bool.true_beq, Bool.false_beq, c2, Tryz.results195]
        have : i = 15 := by omega
        subst this
        exact hq
    · have c1 : decide ((i : Int) < l.length) = false := decide_eq_false (by omega)
      simp -dsimp only [Vm.E, List.lookup, Nat.reduceAdd, Nat.reduceBEq, Int.reduceBNe, Int.reduceBEq, Bool.true_beq, Bool.false_beq, c1, Tryz.results195]
      unfold packOf at hq
      rw [List.take_of_length_le (by omega)] at hq
      rw [List.take_of_length_le (by omega)]
      exact hq
theorem does_rKey : Does Tryz.prog 96 keySpec := by
  refine does_of_awp (good_cons does_refPut good_nil) Tryz.func96 rfl (by decide +kernel) (by decide +kernel) ?_
  rintro args h Q ⟨tag, l, hl, rfl, hq⟩
  refine ⟨by simp [Tryz.f96], ?_⟩
  rw [awpFunc_some (by rfl)]
  simp -dsimp only [Vm.E, List.lookup, Nat.reduceAdd, Nat.reduceBEq, Int.reduceBNe, Int.reduceBEq, Bool.true_beq, Bool.false_beq, es32]
  refine bs_intro zr5 (by decide) (by decide) rfl rfl (by simp [solid, AV.cells]) ?_
  simp -dsimp only [Vm.E, List.lookup, Nat.reduceAdd, Nat.reduceBEq, Int.reduceBNe, Int.reduceBEq, Bool.true_beq, Bool.false_beq]
  refine awp_loop (fun m s h' => ∃ i : Nat, i + m = (l.take 7).length ∧ h' = h ∧ s = mk [(1, .sl 1 (l.map encI)), (5, .own true 5 1 ((tag :: packs 4 ((l.map clampK).take i)).map encB)), (6, .v (.int .i64 i))])
    (l.take 7).length _ (le_mk _ ?_) ⟨0, by omega, rfl, rfl⟩ ?_
  · simp only [List.forall_mem_cons, List.not_mem_nil, false_imp_iff, implies_true, and_true]
    simp -dsimp only [Vm.E, List.lookup, Nat.reduceAdd, Nat.reduceBEq, Int.reduceBNe, Int.reduceBEq, Bool.true_beq, Bool.false_beq]
    exact ⟨.refl _, .refl _, .refl _⟩
  · rintro m s h' ⟨i, hi, rfl, rfl⟩
    have hlen : (l.take 7).length = min 7 l.length := List.length_take ..
    simp -dsimp only [Vm.E, List.lookup, Nat.reduceAdd, Nat.reduceBEq, Int.reduceBNe, Int.reduceBEq, Bool.true_beq, Bool.false_beq, Tryz.underlying28]
    by_cases a1 : i < l.length
    · have c1 : decide ((i : Int) < l.length) = true := decide_eq_true (by omega)
      simp -dsimp only [Vm.E, List.lookup, Nat.reduceAdd, Nat.reduceBEq, Int.reduceBNe, Int.reduceBEq, Bool.true_beq, Bool.false_beq, c1]
      by_cases a2 : i < 7
      · have c2 : decide ((i : Int) < 7) = true := decide_eq_true (by omega)
        simp -dsimp only [Vm.E, List.lookup, Nat.reduceAdd, Nat.reduceBEq, Int.reduceBNe, Int.reduceBEq, Bool.true_beq, Bool.false_beq, c2, es28, as28]
        refine idx_ints l i a1 ?_
        simp -dsimp only [Vm.E, List.lookup, Nat.reduceAdd, Nat.reduceBEq, Int.reduceBNe, Int.reduceBEq, Bool.true_beq, Bool.false_beq, of3]
        have hlt' : i < (l.map clampK).length := by simpa using a1
        have hb := packs_length 4 ((l.map clampK).take i)
        have hti : ((l.map clampK).take i).length ≤ i := by rw [List.length_take]; omega
        have hr := clampK_range l[i]
        have hget : (l.map clampK)[i] = clampK l[i] := by simp
        have hw : IntKind.i64.wrap ((i : Int) + 1) = ((i + 1 : Nat) : Int) := by rw [wrap_i64 (by omega) (by omega)]; simp
        refine call_one (S := putSpec) rfl _ GaL.rfl ⟨tag :: packs 4 ((l.map clampK).take i), clampK l[i], 4, by simp only [List.length_cons]; omega, by omega, by omega, rfl, ?_⟩
        have hput : putOf (tag :: packs 4 ((l.map clampK).take i)) (clampK l[i]) 4 = tag :: packs 4 ((l.map clampK).take (i + 1)) := by
          rw [putOf4 _ _ hr.1 hr.2, List.cons_append, ← hget, ← packs_take 4 (l.map clampK) i hlt']
        simp only [hput]
        simp -dsimp only [Vm.E, List.lookup, Nat.reduceAdd, Nat.reduceBEq, Int.reduceBNe, Int.reduceBEq, Bool.true_beq, Bool.false_beq]
        refine kept_intro ⟨(l.take 7).length - (i + 1), by omega, _, le_mk [(1, .sl 1 (l.map encI)), (5, .own true 5 1 ((tag :: packs 4 ((l.map clampK).take (i + 1))).map encB)), (6, .v (.int .i64 (i + 1 : Nat)))] ?_, i + 1, by omega, rfl, rfl⟩
        simp only [List.forall_mem_cons, List.not_mem_nil, false_imp_iff, implies_true, and_true]
        simp -dsimp only [Vm.E, List.lookup, Nat.reduceAdd, Nat.reduceBEq, Int.reduceBNe, Int.reduceBEq, Bool.true_beq, Bool.false_beq, hw]
        exact ⟨.refl _, .refl _, .refl _⟩
      · have c2 : decide ((i : Int) < 7) = false := decide_eq_false (by omega)
        simp -dsimp only [Vm.E, List.lookup, Nat.reduceAdd, Nat.reduceBEq, Int.reduceBNe, Int.reduceBEq, Bool.true_beq, Bool.false_beq, c2, Tryz.results96]
        have : i = 7 := by omega
        subst this
        unfold keyOf at hq
        rw [List.map_take] at hq
        exact hq
    · have c1 : decide ((i : Int) < l.length) = false := decide_eq_false (by omega)
      simp -dsimp only [Vm.E, List.lookup, Nat.reduceAdd, Nat.reduceBEq, Int.reduceBNe, Int.reduceBEq, Bool.true_beq, Bool.false_beq, c1, Tryz.results96]
      unfold keyOf at hq
      rw [List.map_take, List.take_of_length_le (by simp; omega)] at hq
      rw [List.take_of_length_le (l := l.map clampK) (by simp; omega)]
      exact hq
theorem does_rUnpack : Does Tryz.prog 200 unpackSpec := by
  refine does_of_awp (good_cons does_refGet good_nil) Tryz.func200 rfl (by decide +kernel) (by decide +kernel) ?_
  rintro args h Q ⟨b, many, hl, hm, rfl, hq⟩
  refine ⟨by simp [Tryz.f200], ?_⟩
  rw [awpFunc_some (by rfl)]
  unfold unpackRes at hq
  simp -dsimp only [Vm.E, List.lookup, Nat.reduceAdd, Nat.reduceBEq, Int.reduceBNe, Int.reduceBEq, Bool.true_beq, Bool.false_beq]
  cases h0 : decide (many < 0)
  · have h0' : ¬ many < 0 := of_decide_eq_false h0
    simp -dsimp only [Vm.E, List.lookup, Nat.reduceAdd, Nat.reduceBEq, Int.reduceBNe, Int.reduceBEq, Bool.true_beq, Bool.false_beq]
    cases h1 : decide (many > 15)
    · have h1' : ¬ 15 < many := of_decide_eq_false h1
      rw [if_neg (by omega)] at hq
      have hw8 : IntKind.i64.wrap (8 * many) = 8 * many := wrap_i64 (by omega) (by omega)
      simp -dsimp only [Vm.E, List.lookup, Nat.reduceAdd, Nat.reduceBEq, Int.reduceBNe, Int.reduceBEq, Bool.true_beq, Bool.false_beq, Tryz.underlying32, hw8]
      cases h2 : ((b.length : Int) != 8 * many)
      · have h2' : (b.length : Int) = 8 * many := by simpa using h2
        rw [if_neg (by omega)] at hq
        obtain ⟨k, rfl⟩ : ∃ k : Nat, many = k := ⟨many.toNat, by omega⟩
        rw [Int.toNat_natCast] at hq
        have hk : k ≤ 15 := by omega
        simp -dsimp only [Vm.E, List.lookup, Nat.reduceAdd, Nat.reduceBEq, Int.reduceBNe, Int.reduceBEq, Bool.true_beq, Bool.false_beq]
        refine awp_loop (fun m s h' => ∃ i : Nat, i + m = k ∧ h' = h ∧ s = mk [(0, .sl 1 (b.map encB)), (1, .v (.int .i64 k)), (6, .own true 3 1 ((numsOf b i).map encI)), (7, .v (.int .i64 i))])
          k _ (le_mk _ ?_) ⟨0, by omega, rfl, rfl⟩ ?_
        · simp only [List.forall_mem_cons, List.not_mem_nil, false_imp_iff, implies_true, and_true]
          simp -dsimp only [Vm.E, List.lookup, Nat.reduceAdd, Nat.reduceBEq, Int.reduceBNe, Int.reduceBEq, Bool.true_beq, Bool.false_beq]
          exact ⟨.refl _, .refl _, .nil _ _ _ (by decide), .refl _⟩
        · rintro m s h' ⟨i, hi, rfl, rfl⟩
          simp -dsimp only [Vm.E, List.lookup, Nat.reduceAdd, Nat.reduceBEq, Int.reduceBNe, Int.reduceBEq, Bool.true_beq, Bool.false_beq]
          refine cond_intro (fun hc => ?_) (fun hc => ?_)
          · have hlt : i < k := by have := of_decide_eq_true hc; omega
            have hwi : IntKind.i64.wrap (8 * (i : Int)) = ((8 * i : Nat) : Int) := by rw [wrap_i64 (by omega) (by omega)]; simp
            have hw : IntKind.i64.wrap ((i : Int) + 1) = ((i + 1 : Nat) : Int) := by rw [wrap_i64 (by omega) (by omega)]; simp
            simp -dsimp only [Vm.E, List.lookup, Nat.reduceAdd, Nat.reduceBEq, Int.reduceBNe, Int.reduceBEq, Bool.true_beq, Bool.false_beq, hwi]
            refine call_one (S := getSpec) rfl _ GaL.rfl ⟨b, ((8 * i : Nat) : Int), 8, by omega, by omega, rfl, ?_⟩
            simp only [getRes8 b i (by omega)]
            simp -dsimp only [Vm.E, List.lookup, Nat.reduceAdd, Nat.reduceBEq, Int.reduceBNe, Int.reduceBEq, Bool.true_beq, Bool.false_beq, es28]
            refine bs_intro zr3 (by decide) (by decide) rfl rfl (by simp [solid, AV.cells]) ?_
            simp -dsimp only [Vm.E, List.lookup, Nat.reduceAdd, Nat.reduceBEq, Int.reduceBNe, Int.reduceBEq, Bool.true_beq, Bool.false_beq, append_own ei28]
            refine app_sl Tryz.underlying28 (by simp [AV.cells]) (by simp [numsOf]; omega) ?_
            simp -dsimp only [Vm.E, List.lookup, Nat.reduceAdd, Nat.reduceBEq, Int.reduceBNe, Int.reduceBEq, Bool.true_beq, Bool.false_beq]
            have e3 : (numsOf b i).map encI ++ [AV.v (.int .i64 (num8 b i))] = (numsOf b (i + 1)).map encI := by simp [numsOf, List.range_succ, encI]
            refine kept_intro ⟨k - (i + 1), by omega, _, le_mk [(0, .sl 1 (b.map encB)), (1, .v (.int .i64 k)), (6, .own true 3 1 ((numsOf b (i + 1)).map encI)), (7, .v (.int .i64 (i + 1 : Nat)))] ?_, i + 1, by omega, rfl, rfl⟩
            simp only [List.forall_mem_cons, List.not_mem_nil, false_imp_iff, implies_true, and_true]
            simp -dsimp only [Vm.E, List.lookup, Nat.reduceAdd, Nat.reduceBEq, Int.reduceBNe, Int.reduceBEq, Bool.true_beq, Bool.false_beq, hw, e3]
            exact ⟨.refl _, .refl _, .refl _, .refl _⟩
          · have hge : ¬ i < k := by have := of_decide_eq_false hc; omega
            simp -dsimp only [Vm.E, List.lookup, Nat.reduceAdd, Nat.reduceBEq, Int.reduceBNe, Int.reduceBEq, Bool.true_beq, Bool.false_beq, Tryz.results200]
            obtain rfl : i = k := by omega
            exact hq
      · have h2' : ¬ (b.length : Int) = 8 * many := by simpa using h2
        rw [if_pos h2'] at hq
        simp -dsimp only [Vm.E, List.lookup, Nat.reduceAdd, Nat.reduceBEq, Int.reduceBNe, Int.reduceBEq, Bool.true_beq, Bool.false_beq, Tryz.results200]
        exact hq
    · have h1' : 15 < many := of_decide_eq_true h1
      rw [if_pos (.inr h1')] at hq
      simp -dsimp only [Vm.E, List.lookup, Nat.reduceAdd, Nat.reduceBEq, Int.reduceBNe, Int.reduceBEq, Bool.true_beq, Bool.false_beq, Tryz.results200]
      exact hq
  · have h0' : many < 0 := of_decide_eq_true h0
    rw [if_pos (.inl h0')] at hq
    simp -dsimp only [Vm.E, List.lookup, Nat.reduceAdd, Nat.reduceBEq, Int.reduceBNe, Int.reduceBEq, Bool.true_beq, Bool.false_beq, Tryz.results200]
    exact hq
end Go.Proofs.Lx
/- The reference's view. -/
set_option linter.unusedSimpArgs false
set_option linter.unusedVariables false
namespace Go.Proofs.Lx
open Go.Vm
attribute [local irreducible] awpArr awpBin awpMake awpAppend awpCvX awpStrOf awpBinX awpSlice awpBS awpStore awpAlloc awpCopy awpIndex awpDraw awpIdxX awpFa awpField awpLookup awpUpdate awpDelete awpClear awpRange awpNext awpEntry awpBuild awpClearS awpIdxL
def GaO (x y : AObj) : Prop := x = y ∨ ∃ a b, x = .cells a ∧ y = .cells b ∧ GaL a b
def GaH (h h' : Heap) : Prop := h.length = h'.length ∧ ∀ (i : Nat) (o' : AObj), h'[i]? = some o' → ∃ o : AObj, h[i]? = some o ∧ GaO o o'
theorem GaH.rep {w : World} {g : Gh} {h h' : Heap} (hg : GaH h h') (hh : HeapRep w g h) : HeapRep w g h' := by
  refine ⟨hg.1 ▸ hh.n, hh.lt, hh.inj, fun i o' ho' => ?_⟩
  obtain ⟨o, ho, hgo⟩ := hg.2 i o' ho'
  have hr := hh.obj i o ho
  rcases hgo with rfl | ⟨a, b, rfl, rfl, hab⟩
  · exact hr
  · obtain ⟨vs, e, h1, h2, h3, h4, h5⟩ := hr
    obtain ⟨q1, q2⟩ := gaL_rep (w := w) (g := g) hab
    exact ⟨vs, e, h1, q1 ▸ h2, h3, fun j hj => h4 j (by omega), q2 (fun j => vs.getD j undef) h5⟩
def WeakH (S : Vm.Spec) : Vm.Spec := fun args h Q => ∃ h', GaH h h' ∧ S args h' fun r h2 => ∃ h3, GaH h2 h3 ∧ Q r h3
theorem does_weakH {P : Program} {f : FuncId} {S : Vm.Spec} (hd : Does P f S) : Does P f (WeakH S) := by
  refine ⟨hd.1, fun args h Q ⟨h', hg, hS⟩ w g vs hvs hrep hh hf hlaid => (hd.2 args h' _ hS w g vs hvs hrep (hg.rep hh) hf hlaid).mono ?_⟩
  rintro e w' ⟨r, h2, g', v, ⟨h3, hg3, hq⟩, he, hres, hhr, hrest⟩
  exact ⟨r, h3, g', v, hq, he, hres, hg3.rep hhr, hrest⟩
theorem GaH.refl (h : Heap) : GaH h h := ⟨rfl, fun i o ho => ⟨o, ho, .inl rfl⟩⟩
theorem GaH.append {h : Heap} {a b : List AObj} (hab : a.length = b.length) (hi : ∀ (i : Nat) (o' : AObj), b[i]? = some o' → ∃ o, a[i]? = some o ∧ GaO o o') : GaH (h ++ a) (h ++ b) := by
  refine ⟨by simp [hab], fun i o' ho' => ?_⟩
  rcases Nat.lt_or_ge i h.length with hl | hl
  · rw [List.getElem?_append_left hl] at ho' ⊢
    exact ⟨o', ho', .inl rfl⟩
  · rw [List.getElem?_append_right hl] at ho' ⊢
    exact hi _ _ ho'
structure RId where
  iv : Nat
  iw : Nat
  inn : Nat
  it : Nat
/-- A view of the reference: what each key has. -/
def isRef (h : Heap) (R : RId) (f : Fun) : Prop :=
  ∃ lw ln lt : List KV, h[R.iv]? = some (.cells [.ptr R.iw 0, .ptr R.inn 0, .ptr R.it 0]) ∧ h[R.iw]? = some (tabObj lw) ∧ h[R.inn]? = some (tabObj ln) ∧ h[R.it]? = some (tabObj lt) ∧
    (R.iv ≠ R.inn ∧ R.iv ≠ R.it ∧ R.inn ≠ R.it ∧ R.iw ≠ R.inn ∧ R.iw ≠ R.it) ∧ TabIs f ln ∧ (ln.length ≤ f.n ∧ lt.length ≤ f.n) ∧ ∀ p ∈ ln, p.1.length ≤ 32 ∧ p.2.length ≤ 120
def rFoot (R : RId) : List Nat := [R.inn, R.it]
theorem isRef.len {h : Heap} {R : RId} {f : Fun} (hR : isRef h R f) {k l : List UInt8} (hf : f k = some l) : k.length ≤ 32 ∧ l.length ≤ 120 := by
  obtain ⟨lw, ln, lt, -, -, -, -, -, h6, -, h8⟩ := hR
  exact h8 (k, l) ((h6.2 k l).2 hf)
def rNewH (h : Heap) : Heap := h ++ [tabObj [], tabObj [], tabObj [], .cells [.ptr h.length 0, .ptr (h.length + 1) 0, .ptr (h.length + 2) 0]]
def rNewId (h : Heap) : RId := ⟨h.length + 3, h.length, h.length + 1, h.length + 2⟩
def rNewSpec : Vm.Spec := fun args h Q => args = [.sl 2 []] ∧ Q (.ptr (rNewId h).iv 0) (rNewH h)
theorem does_rNew0 : Does Tryz.prog 21 (fun args h Q => args = [.sl 2 []] ∧ Q (.ptr (h.length + 3) 0) (h ++ [tabObj [], tabObj [], .cells [.v (.slice none 0 0)], .cells [.ptr h.length 0, .ptr (h.length + 1) 0, .ptr (h.length + 2) 0]])) := by
  refine does_of_awp good_nil Tryz.func21 rfl (by decide +kernel) (by decide +kernel) ?_
  rintro args h Q ⟨rfl, hq⟩
  refine ⟨by simp [Tryz.f21], ?_⟩
  rw [awpFunc_some (by rfl)]
  unfold tabObj at hq
  simp -dsimp only [Vm.G, List.lookup, Nat.reduceAdd, Nat.reduceBEq, Int.reduceBNe, Int.reduceBEq, Nat.reduceLeDiff, bd139, bd141, Tryz.results21]
  simpa using hq
theorem does_rNew : Does Tryz.prog 21 rNewSpec := by
  refine (does_weakH does_rNew0).imp ?_
  rintro args h Q ⟨rfl, hq⟩
  refine ⟨h, .refl h, rfl, rNewH h, ?_, hq⟩
  refine GaH.append rfl fun i o' ho' => ?_
  match i, ho' with
  | 0, ho' => exact ⟨o', ho', .inl rfl⟩
  | 1, ho' => exact ⟨o', ho', .inl rfl⟩
  | 2, ho' => exact ⟨_, rfl, .inr ⟨_, _, rfl, (Option.some.inj ho').symm, .cons (.nil 2) .nil⟩⟩
  | 3, ho' => exact ⟨o', ho', .inl rfl⟩
  | i + 4, ho' => simp at ho'
theorem isRef_new (h : Heap) : isRef (rNewH h) (rNewId h) noF := by
  unfold rNewH rNewId
  refine ⟨[], [], [], ?_, ?_, ?_, ?_, ⟨by simp, by simp, by simp, by simp, by simp⟩, TabIs.new, ⟨by simp, by simp⟩, by simp⟩
  · rw [List.getElem?_append_right (by simp)]; simp
  · rw [List.getElem?_append_right (by simp)]; simp
  · rw [List.getElem?_append_right (by simp)]; simp
  · rw [List.getElem?_append_right (by simp)]; simp
def rGetSpec : Vm.Spec := fun args h Q => ∃ (R : RId) (f : Fun) (k : List UInt8), args = [.ptr R.iv 0, .sl 1 (k.map encB)] ∧ isRef h R f ∧ f.n ≤ 536870912 ∧
  (∀ l, f k = some l → Q (.tup [.sl 1 (l.map encB), .v (.bool true)]) h) ∧ (f k = none → Q (.tup [.sl 1 [], .v (.bool false)]) h)
theorem does_rGet : Does Tryz.prog 119 rGetSpec := by
  refine Does.imp (S := Weak fun args h Q => ∃ (R : RId) (f : Fun) (k : List UInt8), args = [.ptr R.iv 0, .sl 1 (k.map encB)] ∧ isRef h R f ∧ f.n ≤ 536870912 ∧
    (∀ l, f k = some l → Q (.tup [.sl 1 (l.map encB), .v (.bool true)]) h) ∧ (f k = none → Q (.tup [.v (.slice none 0 0), .v (.bool false)]) h)) (Does.weak ?_) ?_
  · refine does_of_awp (good_cons does_tGet good_nil) Tryz.func119 rfl (by decide +kernel) (by decide +kernel) ?_
    rintro args h Q ⟨R, f, k, rfl, hR, hn, hq1, hq2⟩
    refine ⟨by simp [Tryz.f119], ?_⟩
    rw [awpFunc_some (by rfl)]
    obtain ⟨lw, ln, lt, h1, h2, h3, h4, h5, h6, h7, h8⟩ := hR
    simp -dsimp only [Vm.G, List.lookup, Nat.reduceAdd, Nat.reduceBEq, Int.reduceBNe, Int.reduceBEq, Nat.reduceLeDiff, fo141_1, h1, of137]
    refine call_one (S := tGetSpec) rfl _ GaL.rfl ⟨R.inn, ln, k, rfl, h3, by omega, fun p hp => by have := (h8 p hp).2; omega, fun v hv => ?_, fun hv => ?_⟩
    · rw [h6.find] at hv
      simp -dsimp only [Vm.E, List.lookup, Nat.reduceAdd, Nat.reduceBEq, Int.reduceBNe, Int.reduceBEq, Bool.true_beq, Bool.false_beq, Tryz.results119]
      exact hq1 v hv
    · rw [h6.find] at hv
      simp -dsimp only [Vm.E, List.lookup, Nat.reduceAdd, Nat.reduceBEq, Int.reduceBNe, Int.reduceBEq, Bool.true_beq, Bool.false_beq, Tryz.results119]
      exact hq2 hv
  · rintro args h Q ⟨R, f, k, rfl, hR, hn, hq1, hq2⟩
    exact ⟨R, f, k, rfl, hR, hn, fun l hf => ⟨_, .refl _, hq1 l hf⟩, fun hf => ⟨_, .tup (.cons (.nil 1) GaL.rfl), hq2 hf⟩⟩
def rPutSpec : Vm.Spec := fun args h Q => ∃ (R : RId) (f : Fun) (k v : List UInt8), args = [.ptr R.iv 0, .sl 1 (k.map encB), .sl 1 (v.map encB)] ∧ isRef h R f ∧ f.n ≤ 536870912 ∧
  (rightKV k v = true → ∀ h', isRef h' R (upd f k (some v)) → Same h h' (rFoot R) → Q (.v (.int .i64 0)) h') ∧ (rightKV k v = false → Q (.v (.int .i64 1)) h)
theorem does_rPut : Does Tryz.prog 95 rPutSpec := by
  refine does_of_awp (good_cons does_rRight (good_cons does_tPut good_nil)) Tryz.func95 rfl (by decide +kernel) (by decide +kernel) ?_
  rintro args h Q ⟨R, f, k, v, rfl, hR, hn, hq1, hq2⟩
  refine ⟨by simp [Tryz.f95], ?_⟩
  rw [awpFunc_some (by rfl)]
  obtain ⟨lw, ln, lt, h1, h2, h3, h4, h5, h6, h7, h8⟩ := hR
  simp -dsimp only [Vm.G, List.lookup, Nat.reduceAdd, Nat.reduceBEq, Int.reduceBNe, Int.reduceBEq, Nat.reduceLeDiff]
  refine call_one (S := rRightSpec) rfl _ GaL.rfl ⟨k, v, rfl, ?_⟩
  cases hr : rightKV k v
  · simp -dsimp only [Vm.E, List.lookup, Nat.reduceAdd, Nat.reduceBEq, Int.reduceBNe, Int.reduceBEq, Bool.true_beq, Bool.false_beq, Tryz.results95]
    exact hq2 hr
  · have hrk : k.length ≤ 32 ∧ v.length ≤ 120 := by unfold rightKV at hr; simp at hr; omega
    simp -dsimp only [Vm.G, List.lookup, Nat.reduceAdd, Nat.reduceBEq, Int.reduceBNe, Int.reduceBEq, Nat.reduceLeDiff, fo141_2, h1, of137]
    refine call_one (S := tPutSpec) rfl _ (.cons (.refl _) (.cons (.refl _) (.cons (.nil 1) .nil))) ⟨R.it, lt, k, [], rfl, h4, by omega, by omega, by simp, ?_⟩
    have hi : ∀ {i : Nat} {o : AObj} {h : Heap}, h[i]? = some o → i < h.length := fun {i o h} hx => by
      rcases Nat.lt_or_ge i h.length with h' | h'
      · exact h'
      · rw [List.getElem?_eq_none h'] at hx; cases hx
    have g1 : (h.set R.it (tabObj (tput k [] lt)))[R.iv]? = some (.cells [.ptr R.iw 0, .ptr R.inn 0, .ptr R.it 0]) := by rw [List.getElem?_set_ne (by exact fun e => h5.2.1 e.symm)]; exact h1
    have g3 : (h.set R.it (tabObj (tput k [] lt)))[R.inn]? = some (tabObj ln) := by rw [List.getElem?_set_ne (by exact fun e => h5.2.2.1 e.symm)]; exact h3
    have g2 : (h.set R.it (tabObj (tput k [] lt)))[R.iw]? = some (tabObj lw) := by rw [List.getElem?_set_ne (by exact fun e => h5.2.2.2.2 e.symm)]; exact h2
    have g4 : (h.set R.it (tabObj (tput k [] lt)))[R.it]? = some (tabObj (tput k [] lt)) := List.getElem?_set_self (hi h4)
    have gs : Same h (h.set R.it (tabObj (tput k [] lt))) (rFoot R) := ⟨by simp, fun i hl hi => List.getElem?_set_ne (by simp [rFoot] at hi; exact fun e => hi.2 e.symm)⟩
    generalize h.set R.it (tabObj (tput k [] lt)) = h2' at g1 g2 g3 g4 gs ⊢
    simp -dsimp only [Vm.G, List.lookup, Nat.reduceAdd, Nat.reduceBEq, Int.reduceBNe, Int.reduceBEq, Nat.reduceLeDiff, fo141_1, g1, of137]
    refine call_one (S := tPutSpec) rfl _ GaL.rfl ⟨R.inn, ln, k, v, rfl, g3, by omega, by omega, by omega, ?_⟩
    simp -dsimp only [Vm.E, List.lookup, Nat.reduceAdd, Nat.reduceBEq, Int.reduceBNe, Int.reduceBEq, Bool.true_beq, Bool.false_beq, Tryz.results95]
    refine hq1 hr _ ⟨lw, tput k v ln, tput k [] lt, ?_, ?_, ?_, ?_, h5, h6.put k v, ⟨?_, ?_⟩, fun p hp => ?_⟩ ?_
    · rw [List.getElem?_set_ne (by exact fun e => h5.1 e.symm)]; exact g1
    · rw [List.getElem?_set_ne (by exact fun e => h5.2.2.2.1 e.symm)]; exact g2
    · exact List.getElem?_set_self (hi g3)
    · rw [List.getElem?_set_ne h5.2.2.1]; exact g4
    · have := tput_length k v ln; show _ ≤ f.n + 1; omega
    · have := tput_length k [] lt; show _ ≤ f.n + 1; omega
    · rcases tput_mem1 hp with rfl | hp
      · exact hrk
      · exact h8 p hp
    · exact ⟨by rw [List.length_set]; exact gs.1, fun i hl hi => by
        rw [List.getElem?_set_ne (by simp [rFoot] at hi; exact fun e => hi.1 e.symm)]; exact gs.2 i hl hi⟩
def rSetSpec : Vm.Spec := fun args h Q => ∃ (R : RId) (f : Fun) (p : KV), args = [.ptr R.iv 0, kvAv p] ∧ isRef h R f ∧ f.n ≤ 536870912 ∧
  ∀ h', isRef h' R (if rightKV p.1 p.2 then upd f p.1 (some p.2) else f) → Same h h' (rFoot R) → Q (.tup []) h'
theorem does_rSet : Does Tryz.prog 115 rSetSpec := by
  refine does_of_awp (good_cons does_rPut good_nil) Tryz.func115 rfl (by decide +kernel) (by decide +kernel) ?_
  rintro args h Q ⟨R, f, ⟨k, v⟩, rfl, hR, hn, hq⟩
  refine ⟨by simp [Tryz.f115], ?_⟩
  rw [awpFunc_some (by rfl)]
  simp only [kvAv]
  simp -dsimp only [Vm.G, List.lookup, Nat.reduceAdd, Nat.reduceBEq, Int.reduceBNe, Int.reduceBEq, Nat.reduceLeDiff, fo155_0, fo155_1, of32]
  refine call_one (S := rPutSpec) rfl _ GaL.rfl ⟨R, f, k, v, rfl, hR, hn, fun hr h' g1 g2 => ?_, fun hr => ?_⟩
  · simp -dsimp only [Vm.E, List.lookup, Nat.reduceAdd, Nat.reduceBEq, Int.reduceBNe, Int.reduceBEq, Bool.true_beq, Bool.false_beq, Tryz.results115]
    exact hq h' (by simp only [hr, if_true]; exact g1) g2
  · simp -dsimp only [Vm.E, List.lookup, Nat.reduceAdd, Nat.reduceBEq, Int.reduceBNe, Int.reduceBEq, Bool.true_beq, Bool.false_beq, Tryz.results115]
    exact hq h (by simp only [hr]; exact hR) (.refl _ _)
end Go.Proofs.Lx
/- The reference's numbers and years. -/
set_option linter.unusedSimpArgs false
set_option linter.unusedVariables false
namespace Go.Proofs.Lx
open Go.Vm
attribute [local irreducible] awpArr awpBin awpMake awpAppend awpCvX awpStrOf awpBinX awpSlice awpBS awpStore awpAlloc awpCopy awpIndex awpDraw awpIdxX awpFa awpField awpLookup awpUpdate awpDelete awpClear awpRange awpNext awpEntry awpBuild awpClearS awpIdxL
def rNumSpec : Vm.Spec := fun args h Q => ∃ (R : RId) (f : Fun) (k : List UInt8), args = [.ptr R.iv 0, .sl 1 (k.map encB)] ∧ isRef h R f ∧ f.n ≤ 536870912 ∧ ∀ b, Q (.tup [.v (.int .i64 (readOf f k)), .v (.bool b)]) h
theorem does_rNum : Does Tryz.prog 123 rNumSpec := by
  refine does_of_awp (good_cons does_rGet (good_cons does_rUnpack good_nil)) Tryz.func123 rfl (by decide +kernel) (by decide +kernel) ?_
  rintro args h Q ⟨R, f, k, rfl, hR, hn, hq⟩
  refine ⟨by simp [Tryz.f123], ?_⟩
  rw [awpFunc_some (by rfl)]
  unfold readOf at hq
  have hlen := fun l hf => (hR.len (k := k) (l := l) hf).2
  simp -dsimp only [Vm.E, List.lookup, Nat.reduceAdd, Nat.reduceBEq, Int.reduceBNe, Int.reduceBEq, Bool.true_beq, Bool.false_beq]
  refine call_one (S := rGetSpec) rfl _ GaL.rfl ⟨R, f, k, rfl, hR, hn, fun l hf => ?_, fun hf => ?_⟩
  · have hl := hlen l hf
    rw [hf] at hq
    have hq : ∀ b, Q (.tup [.v (.int .i64 (if l.length = 8 then num8 l 0 else 0)), .v (.bool b)]) h := hq
    simp -dsimp only [Vm.E, List.lookup, Nat.reduceAdd, Nat.reduceBEq, Int.reduceBNe, Int.reduceBEq, Bool.true_beq, Bool.false_beq]
    refine call_one (S := unpackSpec) rfl _ GaL.rfl ⟨l, 1, by omega, by unfold I64; omega, rfl, ?_⟩
    unfold unpackRes
    by_cases h8 : l.length = 8
    · rw [if_pos h8] at hq
      rw [if_neg (by omega), if_neg (by simp [h8])]
      have e0 : (numsOf l 1)[0]'(by simp [numsOf]) = num8 l 0 := by simp [numsOf]
      simp -dsimp only [Vm.E, List.lookup, Nat.reduceAdd, Nat.reduceBEq, Int.reduceBNe, Int.reduceBEq, Bool.true_beq, Bool.false_beq, bne_self_eq_false, es28, as28]
      refine idx_ints (numsOf l 1) 0 (by simp [numsOf]) ?_
      simp -dsimp only [Vm.E, List.lookup, Nat.reduceAdd, Nat.reduceBEq, Int.reduceBNe, Int.reduceBEq, Bool.true_beq, Bool.false_beq, of3, e0, Tryz.results123]
      exact hq true
    · rw [if_neg h8] at hq
      rw [if_neg (by omega), if_pos (by omega)]
      simp -dsimp only [Vm.E, List.lookup, Nat.reduceAdd, Nat.reduceBEq, Int.reduceBNe, Int.reduceBEq, Bool.true_beq, Bool.false_beq, Tryz.results123]
      exact hq false
  · rw [hf] at hq
    simp -dsimp only [Vm.E, List.lookup, Nat.reduceAdd, Nat.reduceBEq, Int.reduceBNe, Int.reduceBEq, Bool.true_beq, Bool.false_beq]
    refine call_one (S := unpackSpec) rfl _ GaL.rfl ⟨[], 1, by simp, by unfold I64; omega, rfl, ?_⟩
    unfold unpackRes
    rw [if_neg (by omega), if_pos (by simp)]
    simp -dsimp only [Vm.E, List.lookup, Nat.reduceAdd, Nat.reduceBEq, Int.reduceBNe, Int.reduceBEq, Bool.true_beq, Bool.false_beq, Tryz.results123]
    exact hq false
def rLastSpec : Vm.Spec := fun args h Q => ∃ (R : RId) (f : Fun) (which : Int), args = [.ptr R.iv 0, .v (.int .i64 which)] ∧ isRef h R f ∧ f.n ≤ 536870912 ∧ Q (.v (.int .i64 (readOf f (seqKey which)))) h
theorem does_rLast : Does Tryz.prog 47 rLastSpec := by
  refine does_of_awp (good_cons does_rKey (good_cons does_rNum good_nil)) Tryz.func47 rfl (by decide +kernel) (by decide +kernel) ?_
  rintro args h Q ⟨R, f, which, rfl, hR, hn, hq⟩
  refine ⟨by simp [Tryz.f47], ?_⟩
  rw [awpFunc_some (by rfl)]
  simp -dsimp only [Vm.E, List.lookup, Nat.reduceAdd, Nat.reduceBEq, Int.reduceBNe, Int.reduceBEq, Bool.true_beq, Bool.false_beq, es28]
  refine bs_intro zr3 (by decide) (by decide) rfl rfl (by simp [solid, AV.cells]) ?_
  simp -dsimp only [Vm.E, List.lookup, Nat.reduceAdd, Nat.reduceBEq, Int.reduceBNe, Int.reduceBEq, Bool.true_beq, Bool.false_beq]
  refine call_one (S := keySpec) rfl _ GaL.rfl ⟨83, [which], by simp, rfl, ?_⟩
  simp -dsimp only [Vm.E, List.lookup, Nat.reduceAdd, Nat.reduceBEq, Int.reduceBNe, Int.reduceBEq, Bool.true_beq, Bool.false_beq]
  refine call_one (S := rNumSpec) rfl _ GaL.rfl ⟨R, f, seqKey which, rfl, hR, hn, fun b => ?_⟩
  simp -dsimp only [Vm.E, List.lookup, Nat.reduceAdd, Nat.reduceBEq, Int.reduceBNe, Int.reduceBEq, Bool.true_beq, Bool.false_beq, Tryz.results47]
  exact hq
def rNextSpec : Vm.Spec := fun args h Q => ∃ (R : RId) (f : Fun) (which : Int), args = [.ptr R.iv 0, .v (.int .i64 which)] ∧ isRef h R f ∧ f.n ≤ 536870912 ∧
  (readOf f (seqKey which) < 0 ∨ 4294967294 < readOf f (seqKey which) → Q (.tup [.v (.int .i64 0), .v (.int .i64 9)]) h) ∧
  (¬ (readOf f (seqKey which) < 0 ∨ 4294967294 < readOf f (seqKey which)) → ∀ h', isRef h' R (upd f (seqKey which) (some (be 8 (readOf f (seqKey which) + 1)))) → Same h h' (rFoot R) →
    Q (.tup [.v (.int .i64 (readOf f (seqKey which) + 1)), .v (.int .i64 0)]) h')
theorem does_rNext : Does Tryz.prog 116 rNextSpec := by
  refine does_of_awp (good_cons does_rLast (good_cons does_rKey (good_cons does_rPack (good_cons does_rPut good_nil)))) Tryz.func116 rfl (by decide +kernel) (by decide +kernel) ?_
  rintro args h Q ⟨R, f, which, rfl, hR, hn, hq1, hq2⟩
  refine ⟨by simp [Tryz.f116], ?_⟩
  rw [awpFunc_some (by rfl)]
  have hr := readOf_range f (seqKey which)
  simp -dsimp only [Vm.E, List.lookup, Nat.reduceAdd, Nat.reduceBEq, Int.reduceBNe, Int.reduceBEq, Bool.true_beq, Bool.false_beq]
  refine call_one (S := rLastSpec) rfl _ GaL.rfl ⟨R, f, which, rfl, hR, hn, ?_⟩
  generalize readOf f (seqKey which) = n at hr hq1 hq2 ⊢
  unfold I64 at hr
  simp -dsimp only [Vm.E, List.lookup, Nat.reduceAdd, Nat.reduceBEq, Int.reduceBNe, Int.reduceBEq, Bool.true_beq, Bool.false_beq]
  cases c1 : decide (n < 0)
  · simp -dsimp only [Vm.E, List.lookup, Nat.reduceAdd, Nat.reduceBEq, Int.reduceBNe, Int.reduceBEq, Bool.true_beq, Bool.false_beq]
    cases c2 : decide (n > 4294967294)
    · have d1 := of_decide_eq_false c1
      have d2 := of_decide_eq_false c2
      have hw : IntKind.i64.wrap (n + 1) = n + 1 := wrap_i64 (by omega) (by omega)
      simp -dsimp only [Vm.E, List.lookup, Nat.reduceAdd, Nat.reduceBEq, Int.reduceBNe, Int.reduceBEq, Bool.true_beq, Bool.false_beq, es28]
      refine bs_intro zr3 (by decide) (by decide) rfl rfl (by simp [solid, AV.cells]) ?_
      simp -dsimp only [Vm.E, List.lookup, Nat.reduceAdd, Nat.reduceBEq, Int.reduceBNe, Int.reduceBEq, Bool.true_beq, Bool.false_beq]
      refine call_one (S := keySpec) rfl _ GaL.rfl ⟨83, [which], by simp, rfl, ?_⟩
      simp -dsimp only [Vm.E, List.lookup, Nat.reduceAdd, Nat.reduceBEq, Int.reduceBNe, Int.reduceBEq, Bool.true_beq, Bool.false_beq, hw, es28]
      refine bs_intro zr3 (by decide) (by decide) rfl rfl (by simp [solid, AV.cells]) ?_
      simp -dsimp only [Vm.E, List.lookup, Nat.reduceAdd, Nat.reduceBEq, Int.reduceBNe, Int.reduceBEq, Bool.true_beq, Bool.false_beq]
      refine call_one (S := packSpec) rfl _ GaL.rfl ⟨[n + 1], by simp, fun m hm => by simp at hm; subst hm; unfold I64; omega, rfl, ?_⟩
      simp only [packOf_one]
      simp -dsimp only [Vm.E, List.lookup, Nat.reduceAdd, Nat.reduceBEq, Int.reduceBNe, Int.reduceBEq, Bool.true_beq, Bool.false_beq]
      refine call_one (S := rPutSpec) rfl _ GaL.rfl ⟨R, f, seqKey which, be 8 (n + 1), rfl, hR, hn, fun _ h' g1 g2 => ?_, fun hc => by rw [right_seq] at hc; cases hc⟩
      simp -dsimp only [Vm.E, List.lookup, Nat.reduceAdd, Nat.reduceBEq, Int.reduceBNe, Int.reduceBEq, Bool.true_beq, Bool.false_beq, hw, Tryz.results116]
      exact hq2 (by omega) h' g1 g2
    · have d2 := of_decide_eq_true c2
      simp -dsimp only [Vm.E, List.lookup, Nat.reduceAdd, Nat.reduceBEq, Int.reduceBNe, Int.reduceBEq, Bool.true_beq, Bool.false_beq, Tryz.results116]
      exact hq1 (by omega)
  · have d1 := of_decide_eq_true c1
    simp -dsimp only [Vm.E, List.lookup, Nat.reduceAdd, Nat.reduceBEq, Int.reduceBNe, Int.reduceBEq, Bool.true_beq, Bool.false_beq, Tryz.results116]
    exact hq1 (by omega)
def rStateSpec : Vm.Spec := fun args h Q => ∃ (R : RId) (f : Fun) (n : Int), args = [.ptr R.iv 0, .v (.int .i64 n)] ∧ isRef h R f ∧ f.n ≤ 536870912 ∧ Q (.v (.int .i64 (stateOf f n))) h
theorem does_rState : Does Tryz.prog 210 rStateSpec := by
  refine does_of_awp (good_cons does_rKey (good_cons does_rNum good_nil)) Tryz.func210 rfl (by decide +kernel) (by decide +kernel) ?_
  rintro args h Q ⟨R, f, n, rfl, hR, hn, hq⟩
  refine ⟨by simp [Tryz.f210], ?_⟩
  rw [awpFunc_some (by rfl)]
  unfold stateOf at hq
  simp -dsimp only [Vm.E, List.lookup, Nat.reduceAdd, Nat.reduceBEq, Int.reduceBNe, Int.reduceBEq, Bool.true_beq, Bool.false_beq, es28]
  refine bs_intro zr3 (by decide) (by decide) rfl rfl (by simp [solid, AV.cells]) ?_
  simp -dsimp only [Vm.E, List.lookup, Nat.reduceAdd, Nat.reduceBEq, Int.reduceBNe, Int.reduceBEq, Bool.true_beq, Bool.false_beq]
  refine call_one (S := keySpec) rfl _ GaL.rfl ⟨89, [n], by simp, rfl, ?_⟩
  simp -dsimp only [Vm.E, List.lookup, Nat.reduceAdd, Nat.reduceBEq, Int.reduceBNe, Int.reduceBEq, Bool.true_beq, Bool.false_beq]
  refine call_one (S := rNumSpec) rfl _ GaL.rfl ⟨R, f, yrK n, rfl, hR, hn, fun b => ?_⟩
  generalize readOf f (yrK n) = x at hq ⊢
  simp -dsimp only [Vm.E, List.lookup, Nat.reduceAdd, Nat.reduceBEq, Int.reduceBNe, Int.reduceBEq, Bool.true_beq, Bool.false_beq]
  cases c1 : (x == 1)
  · have d1 : ¬ x = 1 := by simpa using c1
    simp -dsimp only [Vm.E, List.lookup, Nat.reduceAdd, Nat.reduceBEq, Int.reduceBNe, Int.reduceBEq, Bool.true_beq, Bool.false_beq]
    cases c2 : (x == 2)
    · have d2 : ¬ x = 2 := by simpa using c2
      rw [if_neg (by simp [d1, d2])] at hq
      simp -dsimp only [Vm.E, List.lookup, Nat.reduceAdd, Nat.reduceBEq, Int.reduceBNe, Int.reduceBEq, Bool.true_beq, Bool.false_beq, Tryz.results210]
      exact hq
    · have d2 : x = 2 := by simpa using c2
      rw [if_pos (.inr d2)] at hq
      simp -dsimp only [Vm.E, List.lookup, Nat.reduceAdd, Nat.reduceBEq, Int.reduceBNe, Int.reduceBEq, Bool.true_beq, Bool.false_beq, Tryz.results210]
      exact hq
  · have d1 : x = 1 := by simpa using c1
    rw [if_pos (.inl d1)] at hq
    simp -dsimp only [Vm.E, List.lookup, Nat.reduceAdd, Nat.reduceBEq, Int.reduceBNe, Int.reduceBEq, Bool.true_beq, Bool.false_beq, Tryz.results210]
    exact hq
def ySetSpec : Vm.Spec := fun args h Q => ∃ (R : RId) (f : Fun) (n st : Int), args = [.ptr R.iv 0, .v (.int .i64 n), .v (.int .i64 st)] ∧ I64 st ∧ isRef h R f ∧ f.n ≤ 536870912 ∧ ∀ h', isRef h' R (yrTurn f n st) → Same h h' (rFoot R) → Q (.v (.int .i64 0)) h'
theorem does_ySet : Does Tryz.prog 211 ySetSpec := by
  refine does_of_awp (good_cons does_rKey (good_cons does_rPack (good_cons does_rPut good_nil))) Tryz.func211 rfl (by decide +kernel) (by decide +kernel) ?_
  rintro args h Q ⟨R, f, n, st, rfl, hst, hR, hn, hq⟩
  refine ⟨by simp [Tryz.f211], ?_⟩
  rw [awpFunc_some (by rfl)]
  simp -dsimp only [Vm.E, List.lookup, Nat.reduceAdd, Nat.reduceBEq, Int.reduceBNe, Int.reduceBEq, Bool.true_beq, Bool.false_beq, es28]
  refine bs_intro zr3 (by decide) (by decide) rfl rfl (by simp [solid, AV.cells]) ?_
  simp -dsimp only [Vm.E, List.lookup, Nat.reduceAdd, Nat.reduceBEq, Int.reduceBNe, Int.reduceBEq, Bool.true_beq, Bool.false_beq]
  refine call_one (S := keySpec) rfl _ GaL.rfl ⟨89, [n], by simp, rfl, ?_⟩
  simp -dsimp only [Vm.E, List.lookup, Nat.reduceAdd, Nat.reduceBEq, Int.reduceBNe, Int.reduceBEq, Bool.true_beq, Bool.false_beq, es28]
  refine bs_intro zr3 (by decide) (by decide) rfl rfl (by simp [solid, AV.cells]) ?_
  simp -dsimp only [Vm.E, List.lookup, Nat.reduceAdd, Nat.reduceBEq, Int.reduceBNe, Int.reduceBEq, Bool.true_beq, Bool.false_beq]
  refine call_one (S := packSpec) rfl _ GaL.rfl ⟨[st], by simp, by simpa using hst, rfl, ?_⟩
  simp only [packOf_one]
  simp -dsimp only [Vm.E, List.lookup, Nat.reduceAdd, Nat.reduceBEq, Int.reduceBNe, Int.reduceBEq, Bool.true_beq, Bool.false_beq]
  refine call_one (S := rPutSpec) rfl _ GaL.rfl ⟨R, f, yrK n, be 8 st, rfl, hR, hn, fun _ h' g1 g2 => ?_, fun hc => by rw [right_yr] at hc; cases hc⟩
  simp -dsimp only [Vm.E, List.lookup, Nat.reduceAdd, Nat.reduceBEq, Int.reduceBNe, Int.reduceBEq, Bool.true_beq, Bool.false_beq, Tryz.results211]
  exact hq h' g1 g2
theorem does_rYRight : Does Tryz.prog 209 yrRightSpec := by
  refine does_of_awp good_nil Tryz.func209 rfl (by decide +kernel) (by decide +kernel) ?_
  rintro args h Q ⟨n, rfl, hq⟩
  refine ⟨by simp [Tryz.f209], ?_⟩
  rw [awpFunc_some (by rfl)]
  unfold rightY at hq
  simp -dsimp only [Vm.E, List.lookup, Nat.reduceAdd, Nat.reduceBEq, Int.reduceBNe, Int.reduceBEq, Bool.true_beq, Bool.false_beq]
  have e : decide (n ≥ 2000) = decide (2000 ≤ n) := rfl
  cases c1 : decide (2000 ≤ n)
  · rw [c1] at hq
    simp -dsimp only [Vm.E, List.lookup, Nat.reduceAdd, Nat.reduceBEq, Int.reduceBNe, Int.reduceBEq, Bool.true_beq, Bool.false_beq, e, c1, Tryz.results209]
    exact hq
  · rw [c1] at hq
    simp -dsimp only [Vm.E, List.lookup, Nat.reduceAdd, Nat.reduceBEq, Int.reduceBNe, Int.reduceBEq, Bool.true_beq, Bool.false_beq, e, c1, Tryz.results209]
    exact hq
def rOpenSpec : Vm.Spec := fun args h Q => ∃ (R : RId) (f : Fun) (n : Int), args = [.ptr R.iv 0, .v (.int .i64 n)] ∧ isRef h R f ∧ f.n ≤ 536870912 ∧ ∀ h', isRef h' R (openOf f n).1 → Same h h' (rFoot R) → Q (.v (.int .i64 (openOf f n).2)) h'
theorem does_rOpen : Does Tryz.prog 129 rOpenSpec := by
  refine does_of_awp (good_cons does_rYRight (good_cons does_rState (good_cons does_ySet good_nil))) Tryz.func129 rfl (by decide +kernel) (by decide +kernel) ?_
  rintro args h Q ⟨R, f, n, rfl, hR, hn, hq⟩
  refine ⟨by simp [Tryz.f129], ?_⟩
  rw [awpFunc_some (by rfl)]
  unfold openOf at hq
  simp -dsimp only [Vm.E, List.lookup, Nat.reduceAdd, Nat.reduceBEq, Int.reduceBNe, Int.reduceBEq, Bool.true_beq, Bool.false_beq]
  refine call_one (S := yrRightSpec) rfl _ GaL.rfl ⟨n, rfl, ?_⟩
  cases c1 : rightY n
  · rw [c1] at hq
    simp -dsimp only [Vm.E, List.lookup, Nat.reduceAdd, Nat.reduceBEq, Int.reduceBNe, Int.reduceBEq, Bool.true_beq, Bool.false_beq, Tryz.results129]
    exact hq h hR (.refl _ _)
  · rw [c1] at hq
    simp -dsimp only [Vm.E, List.lookup, Nat.reduceAdd, Nat.reduceBEq, Int.reduceBNe, Int.reduceBEq, Bool.true_beq, Bool.false_beq]
    refine call_one (S := rStateSpec) rfl _ GaL.rfl ⟨R, f, n, rfl, hR, hn, ?_⟩
    simp -dsimp only [Vm.E, List.lookup, Nat.reduceAdd, Nat.reduceBEq, Int.reduceBNe, Int.reduceBEq, Bool.true_beq, Bool.false_beq]
    cases c2 : (stateOf f n != 0)
    · have d2 : stateOf f n = 0 := by simpa using c2
      rw [if_pos rfl, if_pos d2] at hq
      simp -dsimp only [Vm.E, List.lookup, Nat.reduceAdd, Nat.reduceBEq, Int.reduceBNe, Int.reduceBEq, Bool.true_beq, Bool.false_beq]
      refine call_one (S := ySetSpec) rfl _ GaL.rfl ⟨R, f, n, 1, rfl, by unfold I64; omega, hR, hn, fun h' g1 g2 => ?_⟩
      simp -dsimp only [Vm.E, List.lookup, Nat.reduceAdd, Nat.reduceBEq, Int.reduceBNe, Int.reduceBEq, Bool.true_beq, Bool.false_beq, Tryz.results129]
      exact hq h' g1 g2
    · have d2 : ¬ stateOf f n = 0 := by simpa using c2
      rw [if_pos rfl, if_neg d2] at hq
      simp -dsimp only [Vm.E, List.lookup, Nat.reduceAdd, Nat.reduceBEq, Int.reduceBNe, Int.reduceBEq, Bool.true_beq, Bool.false_beq, Tryz.results129]
      exact hq h hR (.refl _ _)
def rCheckSpec : Vm.Spec := fun args h Q => ∃ (R : RId) (f : Fun) (n : Int), args = [.ptr R.iv 0, .v (.int .i64 n)] ∧ isRef h R f ∧ f.n ≤ 536870912 ∧ Q (.v (.int .i64 (checkY f n))) h
theorem does_rCheck : Does Tryz.prog 227 rCheckSpec := by
  refine does_of_awp (good_cons does_rState good_nil) Tryz.func227 rfl (by decide +kernel) (by decide +kernel) ?_
  rintro args h Q ⟨R, f, n, rfl, hR, hn, hq⟩
  refine ⟨by simp [Tryz.f227], ?_⟩
  rw [awpFunc_some (by rfl)]
  unfold checkY at hq
  simp -dsimp only [Vm.E, List.lookup, Nat.reduceAdd, Nat.reduceBEq, Int.reduceBNe, Int.reduceBEq, Bool.true_beq, Bool.false_beq]
  refine call_one (S := rStateSpec) rfl _ GaL.rfl ⟨R, f, n, rfl, hR, hn, ?_⟩
  rcases stateOf_cases f n with e | e | e <;> rw [e] at hq ⊢ <;> simp -dsimp only [Vm.E, List.lookup, Nat.reduceAdd, Nat.reduceBEq, Int.reduceBNe, Int.reduceBEq, Bool.true_beq, Bool.false_beq, Tryz.results227] <;> exact hq
end Go.Proofs.Lx
/- The reference's pairs that begin so; two views beside. -/
set_option linter.unusedSimpArgs false
set_option linter.unusedVariables false
namespace Go.Proofs.Lx
open Go.Vm
attribute [local irreducible] awpArr awpBin awpMake awpAppend awpCvX awpStrOf awpBinX awpSlice awpBS awpStore awpAlloc awpCopy awpIndex awpDraw awpIdxX awpFa awpField awpLookup awpUpdate awpDelete awpClear awpRange awpNext awpEntry awpBuild awpClearS awpIdxL awpTree appB
abbrev preL (pre : List UInt8) (l : List KV) : List KV := l.filter fun p => pre.isPrefixOf p.1
def tScanSpec : Vm.Spec := fun args h Q => ∃ (i : Nat) (l : List KV) (pre : List UInt8), args = [.ptr i 0, .sl 1 (pre.map encB)] ∧ h[i]? = some (tabObj l) ∧ l.length ≤ 1073741824 ∧ pre.length ≤ 1073741824 ∧ (∀ p ∈ l, p.1.length ≤ 32) ∧
  Q (.own true 155 2 ((preL pre l).map kvAv)) h
set_option maxRecDepth 20000 in
set_option maxHeartbeats 4000000 in
theorem does_tScan : Does Tryz.prog 201 tScanSpec := by
  refine does_of_awp good_nil Tryz.func201 rfl (by decide +kernel) (by decide +kernel) ?_
  rintro args h Q ⟨id, l, pre, rfl, hh, hl, hpl, hk32, hq⟩
  unfold tabObj at hh
  refine ⟨by simp [Tryz.f201], ?_⟩
  rw [awpFunc_some (by rfl)]
  simp -dsimp only [Vm.E, List.lookup, Nat.reduceAdd, Nat.reduceBEq, Int.reduceBNe, Int.reduceBEq, Bool.true_beq, Bool.false_beq]
  refine awp_loop (fun m s h' => ∃ i : Nat, i + m = l.length ∧ h' = h ∧ s = mk [(0, .ptr id 0), (1, .sl 1 (pre.map encB)), (5, .own true 155 2 ((preL pre (l.take i)).map kvAv)), (6, .v (.int .i64 i))])
    l.length _ (le_mk _ ?_) ⟨0, by omega, rfl, rfl⟩ ?_
  · simp only [List.forall_mem_cons, List.not_mem_nil, false_imp_iff, implies_true, and_true]
    simp -dsimp only [Vm.E, List.lookup, Nat.reduceAdd, Nat.reduceBEq, Int.reduceBNe, Int.reduceBEq, Bool.true_beq, Bool.false_beq]
    exact ⟨.refl _, .refl _, .nil _ _ _ (by decide), .refl _⟩
  · rintro m s h' ⟨i, hi, rfl, rfl⟩
    simp -dsimp only [Vm.E, List.lookup, Nat.reduceAdd, Nat.reduceBEq, Int.reduceBNe, Int.reduceBEq, Bool.true_beq, Bool.false_beq, fo139_0, hh, of65, Tryz.underlying65]
    refine cond_intro (fun hcc => ?_) (fun hcc => ?_)
    · have hlt : i < l.length := by have := of_decide_eq_true hcc; omega
      have hw : IntKind.i64.wrap ((i : Int) + 1) = ((i + 1 : Nat) : Int) := by rw [wrap_i64 (by omega) (by omega)]; simp
      obtain ⟨p, hp⟩ : ∃ p, l[i] = p := ⟨_, rfl⟩
      have hkp := hk32 p (hp ▸ List.getElem_mem hlt)
      have hpre : (preL pre (l.take i)).length ≤ i := Nat.le_trans (List.length_filter_le ..) (by rw [List.length_take]; omega)
      have est : preL pre (l.take (i + 1)) = preL pre (l.take i) ++ if pre.isPrefixOf p.1 then [p] else [] := by
        rw [List.take_succ_eq_append_getElem hlt, preL, List.filter_append, hp, List.filter_cons, List.filter_nil]
      simp -dsimp only [Vm.E, List.lookup, Nat.reduceAdd, Nat.reduceBEq, Int.reduceBNe, Int.reduceBEq, Bool.true_beq, Bool.false_beq, fo139_0, hh, of65, es65, as65]
      refine idx_map kvAv l i hlt ?_
      simp only [hp, kvAv]
      simp -dsimp only [Vm.G, List.lookup, Nat.reduceAdd, Nat.reduceBEq, Int.reduceBNe, Int.reduceBEq, Nat.reduceLeDiff, AV.cells, fo155_0, of32]
      have e1 : (p.1.map encB).take (pre.length : Int).toNat = (p.1.take pre.length).map encB := by rw [Int.toNat_natCast, List.map_take]
      refine draw_cont [] (.take 0 (.take 1 (.take 2 (.take 3 (.take 4 (.take 5 (.take 6 (.take 7 (.take 8 (.take 9 (.take 11 (.alt 10 (.alt 12 (.take 13 (.take 14 (.done))) .stop) (.alt 12 (.alt 10 (.take 13 (.take 14 (.done))) .stop) (.stop)))))))))))))) (fun s hx => hx = h' ∧ s 39 = .v (.bool (pre.isPrefixOf p.1)) ∧ s 0 = .ptr id 0 ∧ s 1 = .sl 1 (pre.map encB) ∧ s 5 = .own true 155 2 ((preL pre (l.take i)).map kvAv) ∧ s 6 = .v (.int .i64 i)) (by kernel_rfl) (by kernel_rfl) (by kernel_rfl) (by decide) ?_ ?_
      · by_cases hle : pre.length ≤ p.1.length
        · have c1 : decide ((p.1.length : Int) ≥ pre.length) = true := decide_eq_true (by omega)
          simp only [← isPrefixOf_take p.1 pre hle]
          repeat' first
            | with_reducible exact True.intro
            | simp -dsimp only [Vm.E, List.lookup, Nat.reduceAdd, Nat.reduceBEq, Int.reduceBNe, Int.reduceBEq, Bool.true_beq, Bool.false_beq, c1, e1, Tryz.underlying32, cs32, str_eql, toList_mk]
            | refine strOf_sl bt32 pre rfl ?_
            | refine strOf_sl bt32 (p.1.take pre.length) rfl ?_
            | refine slice_h es32 (by omega) (by rw [List.length_map]; omega) ?_
            | refine tree_alt ?_ ?_
        · have c1 : decide ((p.1.length : Int) ≥ pre.length) = false := decide_eq_false (by omega)
          simp only [isPrefixOf_long p.1 pre hle]
          repeat' first
            | with_reducible exact True.intro
            | simp -dsimp only [Vm.E, List.lookup, Nat.reduceAdd, Nat.reduceBEq, Int.reduceBNe, Int.reduceBEq, Bool.true_beq, Bool.false_beq, c1, Tryz.underlying32]
            | refine tree_alt ?_ ?_
      · rintro s hx ⟨rfl, e39, e0, e1, e5, e6⟩
        cases hb : pre.isPrefixOf p.1
        · rw [hb] at e39 est
          simp only [Bool.false_eq_true, if_false, List.append_nil] at est
          simp -dsimp only [Vm.E, List.lookup, Nat.reduceAdd, Nat.reduceBEq, Int.reduceBNe, Int.reduceBEq, Bool.true_beq, Bool.false_beq, e39, e0, e1, e5, e6]
          refine kept_intro ⟨l.length - (i + 1), by omega, _, le_mk [(0, .ptr id 0), (1, .sl 1 (pre.map encB)), (5, .own true 155 2 ((preL pre (l.take (i + 1))).map kvAv)), (6, .v (.int .i64 (i + 1 : Nat)))] ?_, i + 1, by omega, rfl, rfl⟩
          simp only [List.forall_mem_cons, List.not_mem_nil, false_imp_iff, implies_true, and_true, est]
          simp -dsimp only [Vm.E, List.lookup, Nat.reduceAdd, Nat.reduceBEq, Int.reduceBNe, Int.reduceBEq, Bool.true_beq, Bool.false_beq, e39, e0, e1, e5, e6, hw]
          exact ⟨.refl _, .refl _, .refl _, .refl _⟩
        · rw [hb] at e39 est
          simp only [if_true] at est
          simp -dsimp only [Vm.E, List.lookup, Nat.reduceAdd, Nat.reduceBEq, Int.reduceBNe, Int.reduceBEq, Bool.true_beq, Bool.false_beq, e39, e0, e1, e5, e6, fo139_0, hh, of65, es65, as65]
          refine idx_map kvAv l i hlt ?_
          simp only [hp, kvAv]
          simp -dsimp only [Vm.E, List.lookup, Nat.reduceAdd, Nat.reduceBEq, Int.reduceBNe, Int.reduceBEq, Bool.true_beq, Bool.false_beq, e39, e0, e1, e5, e6, Vm.S, Nat.reduceLeDiff, AV.cells, of155, es65]
          refine bs_intro zr155 (by decide) (by decide) rfl rfl (by simp [solid, AV.cells]) ?_
          simp -dsimp only [Vm.E, List.lookup, Nat.reduceAdd, Nat.reduceBEq, Int.reduceBNe, Int.reduceBEq, Bool.true_beq, Bool.false_beq, e39, e0, e1, e5, e6, append_own ei65]
          refine app_sl Tryz.underlying65 (by simp [AV.cells]) (by simp only [List.length_map, List.length_cons, List.length_nil]; omega) ?_
          simp -dsimp only [Vm.E, List.lookup, Nat.reduceAdd, Nat.reduceBEq, Int.reduceBNe, Int.reduceBEq, Bool.true_beq, Bool.false_beq, e39, e0, e1, e5, e6]
          refine kept_intro ⟨l.length - (i + 1), by omega, _, le_mk [(0, .ptr id 0), (1, .sl 1 (pre.map encB)), (5, .own true 155 2 ((preL pre (l.take (i + 1))).map kvAv)), (6, .v (.int .i64 (i + 1 : Nat)))] ?_, i + 1, by omega, rfl, rfl⟩
          simp only [List.forall_mem_cons, List.not_mem_nil, false_imp_iff, implies_true, and_true, est, List.map_append, List.map_cons, List.map_nil, kvAv]
          simp -dsimp only [Vm.E, List.lookup, Nat.reduceAdd, Nat.reduceBEq, Int.reduceBNe, Int.reduceBEq, Bool.true_beq, Bool.false_beq, e39, e0, e1, e5, e6, hw]
          exact ⟨.refl _, .refl _, .refl _, .refl _⟩
    · have hge : ¬ i < l.length := by have := of_decide_eq_false hcc; omega
      simp -dsimp only [Vm.E, List.lookup, Nat.reduceAdd, Nat.reduceBEq, Int.reduceBNe, Int.reduceBEq, Bool.true_beq, Bool.false_beq, Tryz.results201]
      rw [List.take_of_length_le (by omega)]
      exact hq
def rScanSpec : Vm.Spec := fun args h Q => ∃ (R : RId) (f : Fun) (pre : List UInt8), args = [.ptr R.iv 0, .sl 1 (pre.map encB)] ∧ pre.length ≤ 1073741824 ∧ isRef h R f ∧ f.n ≤ 536870912 ∧
  ∀ l, ScanIs f pre l → l.length ≤ f.n → Q (.own true 155 2 (l.map kvAv)) h
theorem does_rScan : Does Tryz.prog 125 rScanSpec := by
  refine does_of_awp (good_cons does_tScan good_nil) Tryz.func125 rfl (by decide +kernel) (by decide +kernel) ?_
  rintro args h Q ⟨R, f, pre, rfl, hpl, hR, hn, hq⟩
  refine ⟨by simp [Tryz.f125], ?_⟩
  rw [awpFunc_some (by rfl)]
  obtain ⟨lw, ln, lt, h1, h2, h3, h4, h5, h6, h7, h8⟩ := hR
  simp -dsimp only [Vm.G, List.lookup, Nat.reduceAdd, Nat.reduceBEq, Int.reduceBNe, Int.reduceBEq, Nat.reduceLeDiff, fo141_1, h1, of137]
  refine call_one (S := tScanSpec) rfl _ GaL.rfl ⟨R.inn, ln, pre, rfl, h3, by omega, hpl, fun p hp => (h8 p hp).1, ?_⟩
  simp -dsimp only [Vm.E, List.lookup, Nat.reduceAdd, Nat.reduceBEq, Int.reduceBNe, Int.reduceBEq, Bool.true_beq, Bool.false_beq, Tryz.results125]
  exact hq _ (h6.scan pre) (Nat.le_trans (List.length_filter_le ..) h7.1)
def Both (h : Heap) (V : VId) (R : RId) (f : Fun) : Prop := isView h V f ∧ isRef h R f ∧ (∀ i ∈ [V.iv, V.ic, V.im], i ∉ [R.iv, R.iw, R.inn, R.it])
theorem get_lt {h : Heap} {i : Nat} {o : AObj} (hx : h[i]? = some o) : i < h.length := by
  rcases Nat.lt_or_ge i h.length with h' | h'
  · exact h'
  · rw [List.getElem?_eq_none h'] at hx; cases hx
theorem Same.get {h h' : Heap} {fp : List Nat} (hs : Same h h' fp) {i : Nat} {o : AObj} (hx : h[i]? = some o) (hi : i ∉ fp) : h'[i]? = some o := by rw [hs.2 i (get_lt hx) hi]; exact hx
theorem isView.same {h h' : Heap} {V : VId} {f : Fun} {fp : List Nat} (hV : isView h V f) (hs : Same h h' fp) (hd : ∀ i ∈ [V.iv, V.ic, V.im], i ∉ fp) : isView h' V f := by
  obtain ⟨chg, clk, mem, clk2, h1, h2, h3, h4⟩ := hV
  exact ⟨chg, clk, mem, clk2, hs.get h1 (hd _ (by simp)), hs.get h2 (hd _ (by simp)), hs.get h3 (hd _ (by simp)), h4⟩
theorem isRef.same {h h' : Heap} {R : RId} {f : Fun} {fp : List Nat} (hR : isRef h R f) (hs : Same h h' fp) (hd : ∀ i ∈ [R.iv, R.iw, R.inn, R.it], i ∉ fp) : isRef h' R f := by
  obtain ⟨lw, ln, lt, h1, h2, h3, h4, h5⟩ := hR
  exact ⟨lw, ln, lt, hs.get h1 (hd _ (by simp)), hs.get h2 (hd _ (by simp)), hs.get h3 (hd _ (by simp)), hs.get h4 (hd _ (by simp)), h5⟩
theorem Both.view {h h' : Heap} {V : VId} {R : RId} {f g : Fun} (hB : Both h V R f) (hV : isView h' V g) (hs : Same h h' [V.ic]) : isRef h' R f := by
  refine hB.2.1.same hs fun i hi hm => ?_
  rw [List.mem_singleton] at hm; subst hm
  exact hB.2.2 V.ic (by simp) hi
theorem Both.ref {h h' h2 : Heap} {V : VId} {R : RId} {f g : Fun} (hB : Both h V R f) (hV : isView h' V g) (hR : isRef h2 R g) (hs : Same h' h2 (rFoot R)) : Both h2 V R g := by
  refine ⟨hV.same hs fun i hi hm => ?_, hR, hB.2.2⟩
  refine hB.2.2 i hi ?_
  simp [rFoot] at hm ⊢
  rcases hm with rfl | rfl <;> simp
theorem Both.quiet {h h' : Heap} {V : VId} {R : RId} {f : Fun} (hB : Both h V R f) (hV : isView h' V f) (hs : Same h h' []) : Both h' V R f :=
  ⟨hV, hB.2.1.same hs (by simp), hB.2.2⟩
end Go.Proofs.Lx
/- exchequerplain: few pairs, the same pairs. -/
set_option linter.unusedSimpArgs false
set_option linter.unusedVariables false
namespace Go.Proofs.Lx
open Go.Vm
attribute [local irreducible] awpArr awpBin awpMake awpAppend awpCvX awpStrOf awpBinX awpSlice awpBS awpStore awpAlloc awpCopy awpIndex awpDraw awpIdxX awpFa awpField awpLookup awpUpdate awpDelete awpClear awpRange awpNext awpEntry awpBuild awpClearS awpIdxL
def eqKVSpec : Vm.Spec := fun args h Q => ∃ x y : KV, args = [kvAv x, kvAv y] ∧ Q (.v (.bool (x.1 == y.1 && x.2 == y.2))) h
theorem does_eqKV : Does Tryz.prog 203 eqKVSpec := by
  refine does_of_awp (good_cons does_equal good_nil) Tryz.func203 rfl (by decide +kernel) (by decide +kernel) ?_
  rintro args h Q ⟨⟨k, v⟩, ⟨k2, v2⟩, rfl, hq⟩
  refine ⟨by simp [Tryz.f203], ?_⟩
  rw [awpFunc_some (by rfl)]
  simp only [kvAv]
  simp -dsimp only [Vm.G, List.lookup, Nat.reduceAdd, Nat.reduceBEq, Int.reduceBNe, Int.reduceBEq, Nat.reduceLeDiff, fo155_0, of32]
  refine call_one (S := equalSpec) rfl _ GaL.rfl ⟨k, k2, rfl, ?_⟩
  simp -dsimp only [Vm.E, List.lookup, Nat.reduceAdd, Nat.reduceBEq, Int.reduceBNe, Int.reduceBEq, Bool.true_beq, Bool.false_beq]
  cases c1 : (k == k2)
  · simp only [c1] at hq
    simp -dsimp only [Vm.G, List.lookup, Nat.reduceAdd, Nat.reduceBEq, Int.reduceBNe, Int.reduceBEq, Nat.reduceLeDiff, Tryz.results203]
    exact hq
  · simp only [c1] at hq
    simp -dsimp only [Vm.G, List.lookup, Nat.reduceAdd, Nat.reduceBEq, Int.reduceBNe, Int.reduceBEq, Nat.reduceLeDiff, fo155_1, of32]
    refine call_one (S := equalSpec) rfl _ GaL.rfl ⟨v, v2, rfl, ?_⟩
    simp -dsimp only [Vm.E, List.lookup, Nat.reduceAdd, Nat.reduceBEq, Int.reduceBNe, Int.reduceBEq, Bool.true_beq, Bool.false_beq, Tryz.results203]
    exact hq
def eqFSpec : Vm.Spec := fun args h Q => ∃ l l' : List KV, l.length ≤ 9223372036854775807 ∧ args = [.sl 2 (l.map kvAv), .sl 2 (l'.map kvAv), .clo 203 []] ∧ Q (.v (.bool (decide (l = l')))) h
set_option maxHeartbeats 1000000 in
theorem does_eqF : Does Tryz.prog 202 eqFSpec := by
  refine does_of_awp (good_cons does_eqKV good_nil) Tryz.func202 rfl (by decide +kernel) (by decide +kernel) ?_
  rintro args h Q ⟨l, l', hl, rfl, hq⟩
  refine ⟨by simp [Tryz.f202], ?_⟩
  rw [awpFunc_some (by rfl)]
  simp -dsimp only [Vm.E, List.lookup, Nat.reduceAdd, Nat.reduceBEq, Int.reduceBNe, Int.reduceBEq, Bool.true_beq, Bool.false_beq, Tryz.underlying65]
  by_cases hlen : l.length = l'.length
  · have c1 : ((l.length : Int) != l'.length) = false := by simp [hlen]
    simp -dsimp only [Vm.E, List.lookup, Nat.reduceAdd, Nat.reduceBEq, Int.reduceBNe, Int.reduceBEq, Bool.true_beq, Bool.false_beq, c1, Tryz.underlying65]
    refine awp_loop (fun m s h' => ∃ i : Nat, i + m = l.length ∧ h' = h ∧ (∀ j (hj : j < l.length), j < i → l[j] = l'[j]'(by omega)) ∧ s = mk [(1, .sl 2 (l'.map kvAv)), (2, .clo 203 []), (15, .sl 2 (l.map kvAv)), (16, .v (.int .i64 l.length)), (17, .v (.int .i64 i))])
      l.length _ (le_mk _ ?_) ⟨0, by omega, rfl, fun j _ hj => by omega, rfl⟩ ?_
    · simp only [List.forall_mem_cons, List.not_mem_nil, false_imp_iff, implies_true, and_true]
      simp -dsimp only [Vm.E, List.lookup, Nat.reduceAdd, Nat.reduceBEq, Int.reduceBNe, Int.reduceBEq, Bool.true_beq, Bool.false_beq]
      exact ⟨.refl _, .refl _, .refl _, .refl _, .refl _⟩
    · rintro m s h' ⟨i, hi, rfl, hb, rfl⟩
      simp -dsimp only [Vm.E, List.lookup, Nat.reduceAdd, Nat.reduceBEq, Int.reduceBNe, Int.reduceBEq, Bool.true_beq, Bool.false_beq]
      refine cond_intro (fun hcc => ?_) (fun hcc => ?_)
      · have hlt : i < l.length := by have := of_decide_eq_true hcc; omega
        have hlt' : i < l'.length := by omega
        obtain ⟨x, hx⟩ : ∃ x, l[i] = x := ⟨_, rfl⟩
        obtain ⟨y, hy⟩ : ∃ y, l'[i] = y := ⟨_, rfl⟩
        have hw : IntKind.i64.wrap ((i : Int) + 1) = ((i + 1 : Nat) : Int) := by rw [wrap_i64 (by omega) (by omega)]; simp
        simp -dsimp only [Vm.E, List.lookup, Nat.reduceAdd, Nat.reduceBEq, Int.reduceBNe, Int.reduceBEq, Bool.true_beq, Bool.false_beq, es65, as65]
        refine idx_map kvAv l i hlt ?_
        simp only [hx, kvAv]
        simp -dsimp only [Vm.G, List.lookup, Nat.reduceAdd, Nat.reduceBEq, Int.reduceBNe, Int.reduceBEq, Nat.reduceLeDiff, AV.cells, of155, al155, sz155, es65, as65]
        refine idx_map kvAv l' i hlt' ?_
        simp only [hy, kvAv]
        simp -dsimp only [Vm.G, List.lookup, Nat.reduceAdd, Nat.reduceBEq, Int.reduceBNe, Int.reduceBEq, Nat.reduceLeDiff, AV.cells, of155, al155, sz155]
        refine call_one (S := eqKVSpec) rfl _ GaL.rfl ⟨x, y, rfl, ?_⟩
        cases he : (x.1 == y.1 && x.2 == y.2)
        · have hne : ¬ l = l' := fun e => by
            subst e
            rw [← hx, ← hy] at he
            simp at he
          rw [decide_eq_false hne] at hq
          simp -dsimp only [Vm.E, List.lookup, Nat.reduceAdd, Nat.reduceBEq, Int.reduceBNe, Int.reduceBEq, Bool.true_beq, Bool.false_beq, Tryz.results202]
          exact hq
        · have hxy : x = y := by
            simp only [Bool.and_eq_true, beq_iff_eq] at he
            exact Prod.ext he.1 he.2
          simp -dsimp only [Vm.E, List.lookup, Nat.reduceAdd, Nat.reduceBEq, Int.reduceBNe, Int.reduceBEq, Bool.true_beq, Bool.false_beq, hw]
          refine kept_intro ⟨l.length - (i + 1), by omega, _, le_mk [(1, .sl 2 (l'.map kvAv)), (2, .clo 203 []), (15, .sl 2 (l.map kvAv)), (16, .v (.int .i64 l.length)), (17, .v (.int .i64 (i + 1 : Nat)))] ?_, i + 1, by omega, rfl, fun j hj hj2 => ?_, rfl⟩
          · simp only [List.forall_mem_cons, List.not_mem_nil, false_imp_iff, implies_true, and_true]
            simp -dsimp only [Vm.E, List.lookup, Nat.reduceAdd, Nat.reduceBEq, Int.reduceBNe, Int.reduceBEq, Bool.true_beq, Bool.false_beq]
            exact ⟨.refl _, .refl _, .refl _, .refl _, .refl _⟩
          · by_cases hji : j = i
            · subst hji; rw [hx, hy]; exact hxy
            · exact hb j hj (by omega)
      · have hge : ¬ i < l.length := by have := of_decide_eq_false hcc; omega
        have he : l = l' := List.ext_getElem hlen fun j h1 h2 => hb j h1 (by omega)
        rw [decide_eq_true he] at hq
        simp -dsimp only [Vm.E, List.lookup, Nat.reduceAdd, Nat.reduceBEq, Int.reduceBNe, Int.reduceBEq, Bool.true_beq, Bool.false_beq, Tryz.results202]
        exact hq
  · have c1 : ((l.length : Int) != l'.length) = true := by simp; omega
    rw [decide_eq_false fun e => hlen (by rw [e])] at hq
    simp -dsimp only [Vm.E, List.lookup, Nat.reduceAdd, Nat.reduceBEq, Int.reduceBNe, Int.reduceBEq, Bool.true_beq, Bool.false_beq, c1, Tryz.results202]
    exact hq
def pairsSpec : Vm.Spec := fun args h Q => ∃ l l' : List KV, l.length ≤ 9223372036854775807 ∧ args = [.sl 2 (l.map kvAv), .sl 2 (l'.map kvAv)] ∧ Q (.v (.bool (decide (l = l')))) h
theorem does_pairs : Does Tryz.prog 126 pairsSpec := by
  refine does_of_awp (good_cons does_eqF good_nil) Tryz.func126 rfl (by decide +kernel) (by decide +kernel) ?_
  rintro args h Q ⟨l, l', hl, rfl, hq⟩
  refine ⟨by simp [Tryz.f126], ?_⟩
  rw [awpFunc_some (by rfl)]
  simp -dsimp only [Vm.E, List.lookup, Nat.reduceAdd, Nat.reduceBEq, Int.reduceBNe, Int.reduceBEq, Bool.true_beq, Bool.false_beq]
  refine call_one (S := eqFSpec) rfl _ GaL.rfl ⟨l, l', hl, rfl, ?_⟩
  simp -dsimp only [Vm.E, List.lookup, Nat.reduceAdd, Nat.reduceBEq, Int.reduceBNe, Int.reduceBEq, Bool.true_beq, Bool.false_beq, Tryz.results126]
  exact hq
end Go.Proofs.Lx
/- Years: the reference's list; two lists of numbers. -/
set_option linter.unusedSimpArgs false
set_option linter.unusedVariables false
namespace Go.Proofs.Lx
open Go.Vm
attribute [local irreducible] awpArr awpBin awpMake awpAppend awpCvX awpStrOf awpBinX awpSlice awpBS awpStore awpAlloc awpCopy awpIndex awpDraw awpIdxX awpFa awpField awpLookup awpUpdate awpDelete awpClear awpRange awpNext awpEntry awpBuild awpClearS awpIdxL awpTree
theorem num4_cons (t : UInt8) (r : List UInt8) (i : Nat) (h : 4 * i + 4 ≤ r.length) : getRes (t :: r) ((1 + 4 * i : Nat) : Int) 4 = [.v (.int .i64 (num4 r i)), .v (.int .i64 0)] := by
  unfold getRes num4
  rw [if_neg (by simp [sized]; omega), if_neg (by simp only [List.length_cons]; omega), Int.toNat_natCast]
  rw [show 1 + 4 * i = (4 * i) + 1 by omega, List.drop_succ_cons]
  rfl
theorem does_rSplit : Does Tryz.prog 274 splitSpec := by
  refine does_of_awpO 1 (good_cons does_refGet good_nil) Tryz.func274 rfl (by decide +kernel) (by decide +kernel) ?_
  rintro args h Q ⟨b, hl, rfl, hq0, hq⟩
  refine ⟨by simp [Tryz.f274], ?_⟩
  rw [awpFuncO_some (by rfl)]
  simp -dsimp only [Vm.E, List.lookup, Nat.reduceAdd, Nat.reduceBEq, Int.reduceBNe, Int.reduceBEq, Bool.true_beq, Bool.false_beq, Tryz.underlying32]
  cases b with
  | nil =>
    have c1 : decide (((0 : Nat) : Int) < 1) = true := rfl
    simp -dsimp only [Vm.G, List.lookup, Nat.reduceAdd, Nat.reduceBEq, Int.reduceBNe, Int.reduceBEq, Nat.reduceLeDiff, q274, c1]
    exact hq0 rfl
  | cons t r =>
    have c1 : decide (((r.length + 1 : Nat) : Int) < 1) = false := decide_eq_false (by omega)
    simp -dsimp only [Vm.G, List.lookup, Nat.reduceAdd, Nat.reduceBEq, Int.reduceBNe, Int.reduceBEq, Nat.reduceLeDiff, q274, c1]
    unfold splitOf at hq0 hq
    by_cases d2 : r.length ≤ 28
    · have c2 : decide (((r.length + 1 : Nat) : Int) > 29) = false := decide_eq_false (by omega)
      simp -dsimp only [Vm.G, List.lookup, Nat.reduceAdd, Nat.reduceBEq, Int.reduceBNe, Int.reduceBEq, Nat.reduceLeDiff, q274, c2]
      refine rem_intro (by decide) ?_
      have e2 : ((r.length + 1 : Nat) : Int).tmod 4 = (((r.length + 1) % 4 : Nat) : Int) := by rw [Int.tmod_eq_emod_of_nonneg (by omega)]; omega
      simp only [e2]
      by_cases d1 : r.length % 4 = 0
      · have c3 : ((((r.length + 1) % 4 : Nat) : Int) != 1) = false := by
          have : (r.length + 1) % 4 = 1 := by omega
          rw [this]; rfl
        have hq' := hq t (numsK r (r.length / 4)) (if_pos ⟨d1, d2⟩)
        clear hq hq0
        obtain ⟨k, hk⟩ : ∃ k, r.length = 4 * k := ⟨r.length / 4, by omega⟩
        rw [show r.length / 4 = k by omega] at hq'
        simp -dsimp only [Vm.G, List.lookup, Nat.reduceAdd, Nat.reduceBEq, Int.reduceBNe, Int.reduceBEq, Nat.reduceLeDiff, q274, c3]
        refine awp_loop (fun m s h' => ∃ i : Nat, i + m = k ∧ h' = h ∧ s = mk [(0, .sl 1 ((t :: r).map encB)), (5, .own true 3 1 ((numsK r i).map encI)), (6, .v (.int .i64 (1 + 4 * i : Nat)))])
          k _ (le_mk _ ?_) ⟨0, by omega, rfl, rfl⟩ ?_
        · simp only [List.forall_mem_cons, List.not_mem_nil, false_imp_iff, implies_true, and_true]
          simp -dsimp only [Vm.E, List.lookup, Nat.reduceAdd, Nat.reduceBEq, Int.reduceBNe, Int.reduceBEq, Bool.true_beq, Bool.false_beq]
          exact ⟨.refl _, .nil _ _ _ (by decide), .refl _⟩
        · rintro m s h' ⟨i, hi, rfl, rfl⟩
          simp -dsimp only [Vm.E, List.lookup, Nat.reduceAdd, Nat.reduceBEq, Int.reduceBNe, Int.reduceBEq, Bool.true_beq, Bool.false_beq, Tryz.underlying32]
          refine cond_intro (fun hc => ?_) (fun hc => ?_)
          · have hlt : i < k := by have := of_decide_eq_true hc; simp only [List.length_cons, List.length_map] at this; omega
            simp -dsimp only [Vm.E, List.lookup, Nat.reduceAdd, Nat.reduceBEq, Int.reduceBNe, Int.reduceBEq, Bool.true_beq, Bool.false_beq]
            refine call_one (S := getSpec) rfl _ GaL.rfl ⟨t :: r, ((1 + 4 * i : Nat) : Int), 4, hl, by omega, rfl, ?_⟩
            simp only [num4_cons t r i (by omega)]
            simp -dsimp only [Vm.E, List.lookup, Nat.reduceAdd, Nat.reduceBEq, Int.reduceBNe, Int.reduceBEq, Bool.true_beq, Bool.false_beq, es28]
            refine bs_intro zr3 (by decide) (by decide) rfl rfl (by simp [solid, AV.cells]) ?_
            simp -dsimp only [Vm.E, List.lookup, Nat.reduceAdd, Nat.reduceBEq, Int.reduceBNe, Int.reduceBEq, Bool.true_beq, Bool.false_beq, append_own ei28]
            refine app_sl Tryz.underlying28 (by simp [AV.cells]) (by simp [numsK]; omega) ?_
            simp -dsimp only [Vm.E, List.lookup, Nat.reduceAdd, Nat.reduceBEq, Int.reduceBNe, Int.reduceBEq, Bool.true_beq, Bool.false_beq]
            refine kept_intro ⟨k - (i + 1), by omega, _, le_mk [(0, .sl 1 ((t :: r).map encB)), (5, .own true 3 1 ((numsK r (i + 1)).map encI)), (6, .v (.int .i64 (1 + 4 * (i + 1) : Nat)))] ?_, i + 1, by omega, rfl, rfl⟩
            have ew : IntKind.i64.wrap (((1 + 4 * i : Nat) : Int) + 4) = ((1 + 4 * (i + 1) : Nat) : Int) := by rw [wrap_i64 (by omega) (by omega)]; omega
            have en : (numsK r i).map encI ++ [AV.v (.int .i64 (num4 r i))] = (numsK r (i + 1)).map encI := by simp [numsK, List.range_succ, encI]
            simp only [List.forall_mem_cons, List.not_mem_nil, false_imp_iff, implies_true, and_true]
            simp -dsimp only [Vm.E, List.lookup, Nat.reduceAdd, Nat.reduceBEq, Int.reduceBNe, Int.reduceBEq, Bool.true_beq, Bool.false_beq, ew, en]
            exact ⟨.refl _, .refl _, .refl _⟩
          · have hge : ¬ i < k := by have := of_decide_eq_false hc; simp only [List.length_cons, List.length_map] at this; omega
            obtain rfl : i = k := by omega
            simp -dsimp only [Vm.E, List.lookup, Nat.reduceAdd, Nat.reduceBEq, Int.reduceBNe, Int.reduceBEq, Bool.true_beq, Bool.false_beq, es32, as32]
            refine idx_bytes (t :: r) 0 (by simp) ?_
            simp -dsimp only [Vm.E, List.lookup, Nat.reduceAdd, Nat.reduceBEq, Int.reduceBNe, Int.reduceBEq, Bool.true_beq, Bool.false_beq, of5, Tryz.results274]
            exact hq'
      · have c3 : ((((r.length + 1) % 4 : Nat) : Int) != 1) = true := by simp; omega
        simp -dsimp only [Vm.G, List.lookup, Nat.reduceAdd, Nat.reduceBEq, Int.reduceBNe, Int.reduceBEq, Nat.reduceLeDiff, q274, c3]
        exact hq0 (if_neg (by omega))
    · have c2 : decide (((r.length + 1 : Nat) : Int) > 29) = true := decide_eq_true (by omega)
      simp -dsimp only [Vm.G, List.lookup, Nat.reduceAdd, Nat.reduceBEq, Int.reduceBNe, Int.reduceBEq, Nat.reduceLeDiff, q274, c2]
      exact hq0 (if_neg (by omega))
def ofOf (key : List UInt8) (tag : UInt8) (many : Int) : Option (List Int) := match splitOf key with
  | some (t, l) => if t = tag ∧ (l.length : Int) = many then some l else none
  | none => none
def rOfSpec : Vm.Spec := fun args h Q => ∃ (b : List UInt8) (tag : UInt8) (many : Int), b.length ≤ 4611686018427387904 ∧ args = [.sl 1 (b.map encB), .v (.int .u8 tag.toNat), .v (.int .i64 many)] ∧
  (ofOf b tag many = none → Q (.tup [.v (.slice none 0 0), .v (.bool false)]) h) ∧ (∀ l, ofOf b tag many = some l → Q (.otup 0 true 3 1 (l.map encI) [.any, .v (.bool true)]) h)
theorem does_rOf : Does Tryz.prog 234 rOfSpec := by
  refine does_of_awpO 0 (good_cons does_rSplit good_nil) Tryz.func234 rfl (by decide +kernel) (by decide +kernel) ?_
  rintro args h Q ⟨b, tag, many, hl, rfl, hq0, hq⟩
  refine ⟨by simp [Tryz.f234], ?_⟩
  rw [awpFuncO_some (by rfl)]
  unfold ofOf at hq0 hq
  simp -dsimp only [Vm.E, List.lookup, Nat.reduceAdd, Nat.reduceBEq, Int.reduceBNe, Int.reduceBEq, Bool.true_beq, Bool.false_beq]
  refine call_one (S := splitSpec) rfl _ GaL.rfl ⟨b, hl, rfl, fun hs => ?_, fun t l hs => ?_⟩
  · rw [hs] at hq0
    unfold noKey
    simp -dsimp only [Vm.E, List.lookup, Nat.reduceAdd, Nat.reduceBEq, Int.reduceBNe, Int.reduceBEq, Bool.true_beq, Bool.false_beq, Tryz.results234]
    exact hq0 rfl
  · rw [hs] at hq0 hq
    simp -dsimp only [Vm.E, List.lookup, Nat.reduceAdd, Nat.reduceBEq, Int.reduceBNe, Int.reduceBEq, Bool.true_beq, Bool.false_beq]
    by_cases d1 : t = tag
    · subst d1
      simp -dsimp only [Vm.E, List.lookup, Nat.reduceAdd, Nat.reduceBEq, Int.reduceBNe, Int.reduceBEq, Bool.true_beq, Bool.false_beq, bne_self_eq_false, Tryz.underlying28]
      by_cases d2 : (l.length : Int) = many
      · have c2 : ((l.length : Int) != many) = false := by simp [d2]
        simp -dsimp only [Vm.G, List.lookup, Nat.reduceAdd, Nat.reduceBEq, Int.reduceBNe, Int.reduceBEq, Nat.reduceLeDiff, q234, c2]
        exact hq l (if_pos ⟨rfl, d2⟩)
      · have c2 : ((l.length : Int) != many) = true := by simp [d2]
        simp -dsimp only [Vm.G, List.lookup, Nat.reduceAdd, Nat.reduceBEq, Int.reduceBNe, Int.reduceBEq, Nat.reduceLeDiff, q234, c2]
        exact hq0 (if_neg fun hc => d2 hc.2)
    · have c1 : ((t.toNat : Int) != tag.toNat) = true := by
        simp only [bne_iff_ne, ne_eq]
        exact fun e => d1 (UInt8.toNat_inj.1 (by omega))
      simp -dsimp only [Vm.G, List.lookup, Nat.reduceAdd, Nat.reduceBEq, Int.reduceBNe, Int.reduceBEq, Nat.reduceLeDiff, q234, c1]
      exact hq0 (if_neg fun hc => d1 hc.1)
end Go.Proofs.Lx
/- Nodes that go: IndexFunc and DeleteFunc at nodes (printed by gendel.py out of L15). -/
set_option linter.unusedSimpArgs false
set_option linter.unusedVariables false
namespace Go.Proofs.Lx
open Go.Vm
attribute [local irreducible] awpArr awpBin awpMake awpAppend awpCvX awpStrOf awpBinX awpSlice awpBS awpStore awpAlloc awpCopy awpIndex awpDraw awpIdxX awpFa awpField awpLookup awpUpdate awpDelete awpClear awpRange awpNext awpEntry awpBuild awpClearS awpIdxL
def isNd (x : AV) : Prop := ∃ n : Nd, x = .agg [AV.v (.int .i64 n.year), AV.v (.int .i64 n.id), AV.v (.int .i64 n.parent), AV.v (.int .i64 n.fund), AV.v (.int .i64 n.obj), AV.v (.bool n.abs), AV.v (.int .i64 n.limit), AV.v (.int .i64 n.pre), AV.v (.int .i64 n.enc), AV.v (.int .i64 n.exp), AV.v (.int .i64 n.lapsed), AV.v (.int .i64 n.carried)]
theorem isNd.cells {x : AV} (h : isNd x) : x.cells.length = 12 := by obtain ⟨n, rfl⟩ := h; rfl
end Go.Proofs.Lx
/- The tree of nodes: those of a year, those below one. -/
set_option linter.unusedSimpArgs false
set_option linter.unusedVariables false
namespace Go.Proofs.Lx
open Go.Vm
attribute [local irreducible] awpArr awpBin awpMake awpAppend awpCvX awpStrOf awpBinX awpSlice awpBS awpStore awpAlloc awpCopy awpIndex awpDraw awpIdxX awpFa awpField awpLookup awpUpdate awpDelete awpClear awpRange awpNext awpEntry awpBuild awpClearS awpIdxL
def tgetSpec : Vm.Spec := fun args h Q => ∃ (V : VId) (f : Fun) (year id : Int), args = [.ptr V.iv 0, .v (.int .i64 year), .v (.int .i64 id)] ∧ isView h V f ∧
  (∀ n, nodeAt f year id = some n → Q (.tup [.agg (ndCells n), .v (.bool true)]) h) ∧ (nodeAt f year id = none → Q (.tup [.agg (ndCells .zero), .v (.bool false)]) h)
theorem does_tget : Does Tryz.prog 127 tgetSpec := by
  refine does_of_awp (good_cons does_tnode good_nil) Tryz.func127 rfl (by decide +kernel) (by decide +kernel) ?_
  rintro args h Q ⟨V, f, year, id, rfl, hV, hq1, hq2⟩
  refine ⟨by simp [Tryz.f127], ?_⟩
  rw [awpFunc_some (by rfl)]
  simp -dsimp only [Vm.G, List.lookup, Nat.reduceAdd, Nat.reduceBEq, Int.reduceBNe, Int.reduceBEq, Nat.reduceLeDiff, q127]
  refine call_one (S := tnodeSpec) rfl _ GaL.rfl ⟨V, f, year, id, rfl, hV, fun n hno => ?_, fun hno => ?_⟩
  · simp only [ndCells]
    simp -dsimp only [Vm.G, List.lookup, Nat.reduceAdd, Nat.reduceBEq, Int.reduceBNe, Int.reduceBEq, Nat.reduceLeDiff, q127]
    exact hq1 n hno
  · simp only [ndCells]
    simp -dsimp only [Vm.G, List.lookup, Nat.reduceAdd, Nat.reduceBEq, Int.reduceBNe, Int.reduceBEq, Nat.reduceLeDiff, q127]
    exact hq2 hno
end Go.Proofs.Lx
/- The reference of nodes: ref19, ref28. -/
set_option linter.unusedSimpArgs false
set_option linter.unusedVariables false
namespace Go.Proofs.Lx
open Go.Vm
attribute [local irreducible] awpArr awpBin awpMake awpAppend awpCvX awpStrOf awpBinX awpSlice awpBS awpStore awpAlloc awpCopy awpIndex awpDraw awpIdxX awpFa awpField awpLookup awpUpdate awpDelete awpClear awpRange awpNext awpEntry awpBuild awpClearS awpIdxL awpTree appB awpIdxO eltA treeA
def rPairSpec : Vm.Spec := fun args h Q => ∃ (tag : UInt8) (kl vl : List Int), kl.length ≤ 4611686018427387904 ∧ vl.length ≤ 4611686018427387904 ∧ (∀ n ∈ vl, I64 n) ∧ args = [.v (.int .u8 tag.toNat), .sl 1 (kl.map encI), .sl 1 (vl.map encI)] ∧
  Q (.agg [.sl 1 ((keyOf tag kl).map encB), .sl 1 ((packOf vl).map encB)]) h
theorem does_rPair : Does Tryz.prog 196 rPairSpec := by
  refine does_of_awp (good_cons does_rKey (good_cons does_rPack good_nil)) Tryz.func196 rfl (by decide +kernel) (by decide +kernel) ?_
  rintro args h Q ⟨tag, kl, vl, hk, hv, hi, rfl, hq⟩
  refine ⟨by simp [Tryz.f196], ?_⟩
  rw [awpFunc_some (by rfl)]
  simp -dsimp only [Vm.G, List.lookup, Nat.reduceAdd, Nat.reduceBEq, Int.reduceBNe, Int.reduceBEq, Nat.reduceLeDiff, q196]
  refine call_one (S := keySpec) rfl _ GaL.rfl ⟨tag, kl, by omega, rfl, ?_⟩
  simp -dsimp only [Vm.G, List.lookup, Nat.reduceAdd, Nat.reduceBEq, Int.reduceBNe, Int.reduceBEq, Nat.reduceLeDiff, q196]
  refine call_one (S := packSpec) rfl _ GaL.rfl ⟨vl, by omega, hi, rfl, ?_⟩
  simp -dsimp only [Vm.G, List.lookup, Nat.reduceAdd, Nat.reduceBEq, Int.reduceBNe, Int.reduceBEq, Nat.reduceLeDiff, q196]
  exact hq
set_option maxRecDepth 20000 in
theorem does_rNode : Does Tryz.prog 212 nodeSpec := by
  refine does_of_awp (good_cons does_rPair good_nil) Tryz.func212 rfl (by decide +kernel) (by decide +kernel) ?_
  rintro args h Q ⟨n, ⟨o1, o2, o3, o4, o5, o6, o7, o8, o9, o10, o11⟩, rfl, hq⟩
  refine ⟨by simp [Tryz.f212], ?_⟩
  rw [awpFunc_some (by rfl)]
  simp only [ndCells]
  cases ha : n.abs
  · simp -dsimp only [Vm.G, List.lookup, Nat.reduceAdd, Nat.reduceBEq, Int.reduceBNe, Int.reduceBEq, Nat.reduceLeDiff, q212]
    refine bs_intro zr3 (by decide) (by decide) rfl rfl (by simp [solid, AV.cells]) ?_
    simp -dsimp only [Vm.G, List.lookup, Nat.reduceAdd, Nat.reduceBEq, Int.reduceBNe, Int.reduceBEq, Nat.reduceLeDiff, q212]
    refine bs_intro zr3 (by decide) (by decide) rfl rfl (by simp [solid, AV.cells]) ?_
    simp -dsimp only [Vm.G, List.lookup, Nat.reduceAdd, Nat.reduceBEq, Int.reduceBNe, Int.reduceBEq, Nat.reduceLeDiff, q212]
    refine call_one (S := rPairSpec) rfl _ GaL.rfl ⟨78, [n.year, n.id], [n.parent, n.fund, n.obj, 0, n.limit, n.pre, n.enc, n.exp, n.lapsed, n.carried], by simp, by simp, ?_, rfl, ?_⟩
    · intro m hm
      simp only [List.mem_cons, List.not_mem_nil, or_false] at hm
      have z0 : I64 0 := by unfold I64; omega
      have z1 : I64 1 := by unfold I64; omega
      rcases hm with rfl | rfl | rfl | rfl | rfl | rfl | rfl | rfl | rfl | rfl <;> assumption
    · simp -dsimp only [Vm.G, List.lookup, Nat.reduceAdd, Nat.reduceBEq, Int.reduceBNe, Int.reduceBEq, Nat.reduceLeDiff, q212]
      have e : packOf (ndVal n) = packOf [n.parent, n.fund, n.obj, 0, n.limit, n.pre, n.enc, n.exp, n.lapsed, n.carried] := by unfold ndVal; rw [ha]; rfl
      rw [e] at hq
      exact hq
  · simp -dsimp only [Vm.G, List.lookup, Nat.reduceAdd, Nat.reduceBEq, Int.reduceBNe, Int.reduceBEq, Nat.reduceLeDiff, q212]
    refine bs_intro zr3 (by decide) (by decide) rfl rfl (by simp [solid, AV.cells]) ?_
    simp -dsimp only [Vm.G, List.lookup, Nat.reduceAdd, Nat.reduceBEq, Int.reduceBNe, Int.reduceBEq, Nat.reduceLeDiff, q212]
    refine bs_intro zr3 (by decide) (by decide) rfl rfl (by simp [solid, AV.cells]) ?_
    simp -dsimp only [Vm.G, List.lookup, Nat.reduceAdd, Nat.reduceBEq, Int.reduceBNe, Int.reduceBEq, Nat.reduceLeDiff, q212]
    refine call_one (S := rPairSpec) rfl _ GaL.rfl ⟨78, [n.year, n.id], [n.parent, n.fund, n.obj, 1, n.limit, n.pre, n.enc, n.exp, n.lapsed, n.carried], by simp, by simp, ?_, rfl, ?_⟩
    · intro m hm
      simp only [List.mem_cons, List.not_mem_nil, or_false] at hm
      have z0 : I64 0 := by unfold I64; omega
      have z1 : I64 1 := by unfold I64; omega
      rcases hm with rfl | rfl | rfl | rfl | rfl | rfl | rfl | rfl | rfl | rfl <;> assumption
    · simp -dsimp only [Vm.G, List.lookup, Nat.reduceAdd, Nat.reduceBEq, Int.reduceBNe, Int.reduceBEq, Nat.reduceLeDiff, q212]
      have e : packOf (ndVal n) = packOf [n.parent, n.fund, n.obj, 1, n.limit, n.pre, n.enc, n.exp, n.lapsed, n.carried] := by unfold ndVal; rw [ha]; rfl
      rw [e] at hq
      exact hq
/-- A pair's numbers, or not. -/
def bothOf (tag : UInt8) (k v : Nat) (key val : List UInt8) : Option (List Int × List Int) :=
  match ofOf key tag k with
  | some l => if val.length = 8 * v then some (l, numsOf val v) else none
  | none => none
theorem both_nums (tag : UInt8) (k v : Nat) (key val : List UInt8) : numsPair tag k v key val = (bothOf tag k v key val).map fun p => p.1 ++ p.2 := by
  unfold numsPair bothOf ofOf
  cases splitOf key with
  | none => rfl
  | some p =>
    obtain ⟨t, l⟩ := p
    simp only
    by_cases h1 : t = tag
    · by_cases h2 : l.length = k
      · have h2' : (l.length : Int) = k := by omega
        by_cases h3 : val.length = 8 * v
        · simp [h1, h2, h3]
        · simp [h1, h2, h3]
      · have h2' : ¬ (l.length : Int) = k := by omega
        simp [h1, h2, h2']
    · simp [h1]
def rBothSpec : Vm.Spec := fun args h Q => ∃ (tag : UInt8) (k v : Nat) (key val : List UInt8), v ≤ 15 ∧ k ≤ 15 ∧ key.length ≤ 1073741824 ∧ val.length ≤ 1073741824 ∧ args = [.agg [.sl 1 (key.map encB), .sl 1 (val.map encB)], .v (.int .u8 tag.toNat), .v (.int .i64 k), .v (.int .i64 v)] ∧
  (∀ p, bothOf tag k v key val = some p → Q (.tup [.sl 1 (p.1.map encI), .sl 1 (p.2.map encI), .v (.bool true)]) h) ∧ (bothOf tag k v key val = none → ∀ a b : List Int, Q (.tup [.sl 1 (a.map encI), .sl 1 (b.map encI), .v (.bool false)]) h)
def isI (x : AV) (l : List Int) : Prop := x = .sl 1 (l.map encI) ∨ (l = [] ∧ x = .v (.slice none 0 0))
theorem isI.ga {x : AV} {l : List Int} (h : isI x l) : Ga x (.sl 1 (l.map encI)) := by
  rcases h with rfl | ⟨rfl, rfl⟩
  · exact .refl _
  · exact .nil 1
def rBoth0 : Vm.Spec := fun args h Q => ∃ (tag : UInt8) (k v : Nat) (key val : List UInt8), v ≤ 15 ∧ k ≤ 15 ∧ key.length ≤ 1073741824 ∧ val.length ≤ 1073741824 ∧ args = [.agg [.sl 1 (key.map encB), .sl 1 (val.map encB)], .v (.int .u8 tag.toNat), .v (.int .i64 k), .v (.int .i64 v)] ∧
  (∀ p, bothOf tag k v key val = some p → Q (.tup [.sl 1 (p.1.map encI), .sl 1 (p.2.map encI), .v (.bool true)]) h) ∧ (bothOf tag k v key val = none → ∀ (a b : List Int) (x y : AV), isI x a → isI y b → Q (.tup [x, y, .v (.bool false)]) h)
set_option maxRecDepth 20000 in
theorem does_rBoth0 : Does Tryz.prog 198 rBoth0 := by
  refine does_of_awp (good_cons does_rOf (good_cons does_rUnpack good_nil)) Tryz.func198 rfl (by decide +kernel) (by decide +kernel) ?_
  rintro args h Q ⟨tag, k, v, key, val, hv, hk, hkl, hvl, rfl, hq1, hq2⟩
  refine ⟨by simp [Tryz.f198], ?_⟩
  rw [awpFunc_some (by rfl)]
  unfold bothOf at hq1 hq2
  simp -dsimp only [Vm.G, List.lookup, Nat.reduceAdd, Nat.reduceBEq, Int.reduceBNe, Int.reduceBEq, Nat.reduceLeDiff, q198]
  refine call_one (S := rOfSpec) rfl _ GaL.rfl ⟨key, tag, k, by omega, rfl, fun hs => ?_, fun l hs => ?_⟩
  · rw [hs] at hq2
    simp -dsimp only [Vm.G, List.lookup, Nat.reduceAdd, Nat.reduceBEq, Int.reduceBNe, Int.reduceBEq, Nat.reduceLeDiff, q198]
    refine call_one (S := unpackSpec) rfl _ GaL.rfl ⟨val, v, by omega, by unfold I64; omega, rfl, ?_⟩
    unfold unpackRes
    rw [if_neg (by omega)]
    by_cases h3 : val.length = 8 * v
    · rw [if_neg (by omega)]
      simp -dsimp only [Vm.G, List.lookup, Nat.reduceAdd, Nat.reduceBEq, Int.reduceBNe, Int.reduceBEq, Nat.reduceLeDiff, q198]
      exact hq2 rfl [] (numsOf val (v : Int).toNat) _ _ (.inr ⟨rfl, rfl⟩) (.inl rfl)
    · rw [if_pos (by omega)]
      simp -dsimp only [Vm.G, List.lookup, Nat.reduceAdd, Nat.reduceBEq, Int.reduceBNe, Int.reduceBEq, Nat.reduceLeDiff, q198]
      exact hq2 rfl [] [] _ _ (.inr ⟨rfl, rfl⟩) (.inr ⟨rfl, rfl⟩)
  · rw [hs] at hq1 hq2
    simp -dsimp only [Vm.G, List.lookup, Nat.reduceAdd, Nat.reduceBEq, Int.reduceBNe, Int.reduceBEq, Nat.reduceLeDiff, q198]
    refine call_one (S := unpackSpec) rfl _ GaL.rfl ⟨val, v, by omega, by unfold I64; omega, rfl, ?_⟩
    unfold unpackRes
    rw [if_neg (by omega)]
    by_cases h3 : val.length = 8 * v
    · rw [if_neg (by omega)]
      simp only [if_pos h3] at hq1
      simp -dsimp only [Vm.G, List.lookup, Nat.reduceAdd, Nat.reduceBEq, Int.reduceBNe, Int.reduceBEq, Nat.reduceLeDiff, q198]
      have := hq1 _ rfl
      simpa using this
    · rw [if_pos (by omega)]
      simp only [if_neg h3] at hq2
      simp -dsimp only [Vm.G, List.lookup, Nat.reduceAdd, Nat.reduceBEq, Int.reduceBNe, Int.reduceBEq, Nat.reduceLeDiff, q198]
      exact hq2 trivial l [] _ _ (.inl rfl) (.inr ⟨rfl, rfl⟩)
theorem does_rBoth : Does Tryz.prog 198 rBothSpec := by
  refine (Does.weak does_rBoth0).imp ?_
  rintro args h Q ⟨tag, k, v, key, val, hv, hk, hkl, hvl, rfl, hq1, hq2⟩
  exact ⟨tag, k, v, key, val, hv, hk, hkl, hvl, rfl, fun p hp => ⟨_, .refl _, hq1 p hp⟩, fun hn a b x y hx hy => ⟨_, .tup (.cons hx.ga (.cons hy.ga GaL.rfl)), hq2 hn a b⟩⟩
theorem both_length {tag : UInt8} {k v : Nat} {key val : List UInt8} {p : List Int × List Int} (h : bothOf tag k v key val = some p) : p.1.length = k ∧ p.2.length = v := by
  unfold bothOf ofOf at h
  split at h
  · rename_i l hl
    split at hl
    · split at hl
      · rename_i hc
        cases hl
        split at h
        · cases h; exact ⟨by show l.length = k; omega, by simp [numsOf]⟩
        · cases h
      · cases hl
    · cases hl
  · cases h
def rNodeOfSpec : Vm.Spec := fun args h Q => ∃ key val : List UInt8, key.length ≤ 1073741824 ∧ val.length ≤ 1073741824 ∧ args = [.agg [.sl 1 (key.map encB), .sl 1 (val.map encB)]] ∧
  (∀ n, nodeOf key val = some n → Q (.tup [.agg (ndCells n), .v (.bool true)]) h) ∧ (nodeOf key val = none → Q (.tup [.agg (ndCells .zero), .v (.bool false)]) h)
set_option maxRecDepth 20000 in
theorem does_rNodeOf : Does Tryz.prog 351 rNodeOfSpec := by
  refine does_of_awp (good_cons does_rBoth good_nil) Tryz.func351 rfl (by decide +kernel) (by decide +kernel) ?_
  rintro args h Q ⟨key, val, hk, hv, rfl, hq1, hq2⟩
  refine ⟨by simp [Tryz.f351], ?_⟩
  rw [awpFunc_some (by rfl)]
  unfold nodeOf at hq1 hq2
  rw [both_nums] at hq1 hq2
  simp only [ndCells, Nd.zero] at hq2
  simp -dsimp only [Vm.G, List.lookup, Nat.reduceAdd, Nat.reduceBEq, Int.reduceBNe, Int.reduceBEq, Nat.reduceLeDiff, q351]
  refine call_one (S := rBothSpec) rfl _ GaL.rfl ⟨78, 2, 10, key, val, by omega, by omega, hk, hv, rfl, fun p hp => ?_, fun hp a b => ?_⟩
  · have hlen := both_length hp
    obtain ⟨kl, vl⟩ := p
    obtain ⟨hl1, hl2⟩ := hlen
    match kl, hl1 with
    | [k0, k1], _ =>
    match vl, hl2 with
    | [b0, b1, b2, b3, b4, b5, b6, b7, b8, b9], _ =>
    rw [hp] at hq1
    have hq1' := hq1 _ rfl
    clear hq1 hq2 hp
    simp -dsimp only [Vm.G, List.lookup, Nat.reduceAdd, Nat.reduceBEq, Int.reduceBNe, Int.reduceBEq, Nat.reduceLeDiff, q351]
    refine draw_cont [] (.take 0 (.take 1 (.take 2 (.take 3 (.take 4 (.take 5 (.take 6 (.take 7 (.take 8 (.take 9 (.take 10 (.take 11 (.take 12 (.take 13 (.take 14 (.take 15 (.take 16 (.take 17 (.take 18 (.take 19 (.take 20 (.take 21 (.take 22 (.take 23 (.take 24 (.take 25 (.take 26 (.take 27 (.take 28 (.take 29 (.take 30 (.take 31 (.take 32 (.take 33 (.take 34 (.take 35 (.take 36 (.alt 37 (.alt 38 (.alt 39 (.done) .stop) .stop) .stop)))))))))))))))))))))))))))))))))))))) (fun s h2 => h2 = h ∧ s 2 = .box (ndCells ⟨k0, k1, b0, b1, b2, b3 != 0, b4, b5, b6, b7, b8, b9⟩) ∧ s 3 = .v (.bool true)) (by kernel_rfl) (by kernel_rfl) (by kernel_rfl) (by decide) ?_ ?_
    · simp -dsimp only [Vm.G, List.lookup, Nat.reduceAdd, Nat.reduceBEq, Int.reduceBNe, Int.reduceBEq, Nat.reduceLeDiff, q351, idx_lit, idxE_some, Int.reduceToNat, Int.reduceLE, decide_true, eq_self, encI]
      repeat' first | rfl | exact True.intro | refine And.intro ?_ ?_
    · rintro s h2 ⟨rfl, e2, e3⟩
      simp only [ndCells] at e2
      simp -dsimp only [Vm.G, List.lookup, Nat.reduceAdd, Nat.reduceBEq, Int.reduceBNe, Int.reduceBEq, Nat.reduceLeDiff, q351, e2, e3]
      exact hq1'
  · rw [hp] at hq2
    simp -dsimp only [Vm.G, List.lookup, Nat.reduceAdd, Nat.reduceBEq, Int.reduceBNe, Int.reduceBEq, Nat.reduceLeDiff, q351]
    exact hq2 rfl
def rtPutSpec : Vm.Spec := fun args h Q => ∃ (R : RId) (f : Fun) (n : Nd), args = [.ptr R.iv 0, .agg (ndCells n)] ∧ n.ok ∧ isRef h R f ∧ f.n ≤ 536870912 ∧ ∀ h', isRef h' R (upd f (ndK n) (some (ndV n))) → Same h h' (rFoot R) → Q (.v (.int .i64 0)) h'
theorem does_rtPut : Does Tryz.prog 130 rtPutSpec := by
  refine does_of_awp (good_cons does_rNode (good_cons does_rPut good_nil)) Tryz.func130 rfl (by decide +kernel) (by decide +kernel) ?_
  rintro args h Q ⟨R, f, n, rfl, hn, hR, hfn, hq⟩
  refine ⟨by simp [Tryz.f130], ?_⟩
  rw [awpFunc_some (by rfl)]
  simp only [ndCells]
  simp -dsimp only [Vm.G, List.lookup, Nat.reduceAdd, Nat.reduceBEq, Int.reduceBNe, Int.reduceBEq, Nat.reduceLeDiff, q130]
  refine call_one (S := nodeSpec) rfl _ GaL.rfl ⟨n, hn, rfl, ?_⟩
  simp -dsimp only [Vm.G, List.lookup, Nat.reduceAdd, Nat.reduceBEq, Int.reduceBNe, Int.reduceBEq, Nat.reduceLeDiff, q130]
  refine call_one (S := rPutSpec) rfl _ GaL.rfl ⟨R, f, ndK n, ndV n, rfl, hR, hfn, fun _ h' g1 g2 => ?_, fun hc => by rw [right_nd] at hc; cases hc⟩
  simp -dsimp only [Vm.G, List.lookup, Nat.reduceAdd, Nat.reduceBEq, Int.reduceBNe, Int.reduceBEq, Nat.reduceLeDiff, q130]
  exact hq h' g1 g2
theorem nodeOf_nil (key : List UInt8) : nodeOf key [] = none := by
  unfold nodeOf numsPair
  cases splitOf key with
  | none => rfl
  | some p => simp
def rtGetSpec : Vm.Spec := fun args h Q => ∃ (R : RId) (f : Fun) (year id : Int), args = [.ptr R.iv 0, .v (.int .i64 year), .v (.int .i64 id)] ∧ isRef h R f ∧ f.n ≤ 536870912 ∧
  (∀ n, nodeAt f year id = some n → Q (.tup [.agg (ndCells n), .v (.bool true)]) h) ∧ (nodeAt f year id = none → Q (.tup [.agg (ndCells .zero), .v (.bool false)]) h)
set_option maxRecDepth 20000 in
theorem does_rtGet : Does Tryz.prog 307 rtGetSpec := by
  refine does_of_awp (good_cons does_rKey (good_cons does_rGet (good_cons does_rNodeOf good_nil))) Tryz.func307 rfl (by decide +kernel) (by decide +kernel) ?_
  rintro args h Q ⟨R, f, year, id, rfl, hR, hfn, hq1, hq2⟩
  refine ⟨by simp [Tryz.f307], ?_⟩
  rw [awpFunc_some (by rfl)]
  unfold nodeAt at hq1 hq2
  simp only [ndCells, Nd.zero] at hq2
  simp -dsimp only [Vm.G, List.lookup, Nat.reduceAdd, Nat.reduceBEq, Int.reduceBNe, Int.reduceBEq, Nat.reduceLeDiff, q307]
  refine bs_intro zr3 (by decide) (by decide) rfl rfl (by simp [solid, AV.cells]) ?_
  simp -dsimp only [Vm.G, List.lookup, Nat.reduceAdd, Nat.reduceBEq, Int.reduceBNe, Int.reduceBEq, Nat.reduceLeDiff, q307]
  refine call_one (S := keySpec) rfl _ GaL.rfl ⟨78, [year, id], by simp, rfl, ?_⟩
  have hk := key2_length 78 year id
  generalize keyOf 78 [year, id] = key at hk hq1 hq2 ⊢
  simp -dsimp only [Vm.G, List.lookup, Nat.reduceAdd, Nat.reduceBEq, Int.reduceBNe, Int.reduceBEq, Nat.reduceLeDiff, q307]
  refine call_one (S := rGetSpec) rfl _ GaL.rfl ⟨R, f, key, rfl, hR, hfn, fun val hf => ?_, fun hf => ?_⟩
  · have hvl := (hR.len hf).2
    rw [hf] at hq1 hq2
    simp -dsimp only [Vm.G, List.lookup, Nat.reduceAdd, Nat.reduceBEq, Int.reduceBNe, Int.reduceBEq, Nat.reduceLeDiff, q307]
    refine call_one (S := rNodeOfSpec) rfl _ GaL.rfl ⟨key, val, by omega, by omega, rfl, fun n hn => ?_, fun hn => ?_⟩
    · have hq1 : ∀ m, (if n.year = year ∧ n.id = id then some n else none) = some m → Q (.tup [.agg (ndCells m), .v (.bool true)]) h := fun m hm => hq1 m (by simp only [hn]; exact hm)
      have hq2 := fun hm : (if n.year = year ∧ n.id = id then some n else none) = none => hq2 (by simp only [hn]; exact hm)
      simp only [ndCells] at hq1
      simp only [ndCells]
      simp -dsimp only [Vm.G, List.lookup, Nat.reduceAdd, Nat.reduceBEq, Int.reduceBNe, Int.reduceBEq, Nat.reduceLeDiff, q307]
      cases c1 : (n.year != year)
      · have d1 : n.year = year := by simpa using c1
        simp -dsimp only [Vm.G, List.lookup, Nat.reduceAdd, Nat.reduceBEq, Int.reduceBNe, Int.reduceBEq, Nat.reduceLeDiff, q307]
        cases c2 : (n.id != id)
        · have d2 : n.id = id := by simpa using c2
          simp -dsimp only [Vm.G, List.lookup, Nat.reduceAdd, Nat.reduceBEq, Int.reduceBNe, Int.reduceBEq, Nat.reduceLeDiff, q307]
          exact hq1 n (if_pos ⟨d1, d2⟩)
        · have d2 : ¬ n.id = id := by simpa using c2
          simp -dsimp only [Vm.G, List.lookup, Nat.reduceAdd, Nat.reduceBEq, Int.reduceBNe, Int.reduceBEq, Nat.reduceLeDiff, q307]
          exact hq2 (if_neg fun hc => d2 hc.2)
      · have d1 : ¬ n.year = year := by simpa using c1
        simp -dsimp only [Vm.G, List.lookup, Nat.reduceAdd, Nat.reduceBEq, Int.reduceBNe, Int.reduceBEq, Nat.reduceLeDiff, q307]
        exact hq2 (if_neg fun hc => d1 hc.1)
    · have hq2 := hq2 (by simp only [hn])
      simp only [ndCells, Nd.zero]
      simp -dsimp only [Vm.G, List.lookup, Nat.reduceAdd, Nat.reduceBEq, Int.reduceBNe, Int.reduceBEq, Nat.reduceLeDiff, q307]
      exact hq2
  · rw [hf] at hq2
    simp -dsimp only [Vm.G, List.lookup, Nat.reduceAdd, Nat.reduceBEq, Int.reduceBNe, Int.reduceBEq, Nat.reduceLeDiff, q307]
    refine call_one (S := rNodeOfSpec) rfl _ GaL.rfl ⟨key, [], by omega, by simp, rfl, fun n hn => (by rw [nodeOf_nil] at hn; cases hn), fun hn => ?_⟩
    simp only [ndCells, Nd.zero]
    simp -dsimp only [Vm.G, List.lookup, Nat.reduceAdd, Nat.reduceBEq, Int.reduceBNe, Int.reduceBEq, Nat.reduceLeDiff, q307]
    exact hq2 rfl
def rtPathSpec : Vm.Spec := fun args h Q => ∃ (R : RId) (f : Fun) (year id : Int), args = [.ptr R.iv 0, .v (.int .i64 year), .v (.int .i64 id)] ∧ isRef h R f ∧ f.n ≤ 536870912 ∧ Q (.own true 93 12 ((pathOf f year 8 id).map ndAv)) h
set_option maxRecDepth 20000 in
theorem does_rtPath : Does Tryz.prog 262 rtPathSpec := by
  refine does_of_awp (good_cons does_rtGet good_nil) Tryz.func262 rfl (by decide +kernel) (by decide +kernel) ?_
  rintro args h Q ⟨R, f, year, id, rfl, hR, hfn, hq⟩
  refine ⟨by simp [Tryz.f262], ?_⟩
  rw [awpFunc_some (by rfl)]
  simp -dsimp only [Vm.G, List.lookup, Nat.reduceAdd, Nat.reduceBEq, Int.reduceBNe, Int.reduceBEq, Nat.reduceLeDiff, q262]
  refine awp_loop (fun m s h' => ∃ (id' : Int) (done : List Nd), done.length + m = 8 ∧ h' = h ∧ done ++ pathOf f year m id' = pathOf f year 8 id ∧ s = mk [(0, .ptr R.iv 0), (1, .v (.int .i64 year)), (2, .v (.int .i64 id')), (7, .own true 93 12 (done.map ndAv))])
    8 _ (le_mk _ ?_) ⟨id, [], rfl, rfl, rfl, rfl⟩ ?_
  · simp only [List.forall_mem_cons, List.not_mem_nil, false_imp_iff, implies_true, and_true]
    try simp -dsimp only [Vm.G, List.lookup, Nat.reduceAdd, Nat.reduceBEq, Int.reduceBNe, Int.reduceBEq, Nat.reduceLeDiff, q262]
    repeat' first | exact Fg.refl _ | exact Fg.nil _ _ _ (by decide) | refine And.intro ?_ ?_
  · rintro m s h' ⟨id', done, hd, rfl, hp, rfl⟩
    simp -dsimp only [Vm.G, List.lookup, Nat.reduceAdd, Nat.reduceBEq, Int.reduceBNe, Int.reduceBEq, Nat.reduceLeDiff, q262, List.length_map]
    refine cond_intro (fun hc => ?_) (fun hc => ?_)
    · have hlt : done.length < 8 := by have := of_decide_eq_true hc; omega
      have hm : m = (m - 1) + 1 := by omega
      generalize m - 1 = k at hm
      rw [hm] at hp
      simp only [pathOf] at hp
      simp -dsimp only [Vm.G, List.lookup, Nat.reduceAdd, Nat.reduceBEq, Int.reduceBNe, Int.reduceBEq, Nat.reduceLeDiff, q262]
      refine call_one (S := rtGetSpec) rfl _ GaL.rfl ⟨R, f, year, id', rfl, hR, hfn, fun n hn => ?_, fun hn => ?_⟩
      · rw [hn] at hp
        have hp : done ++ (n :: if n.parent = 0 then [] else pathOf f year k n.parent) = pathOf f year 8 id := hp
        simp only [ndCells]
        simp -dsimp only [Vm.G, List.lookup, Nat.reduceAdd, Nat.reduceBEq, Int.reduceBNe, Int.reduceBEq, Nat.reduceLeDiff, q262]
        refine bs_intro zr93 (by decide) (by decide) rfl rfl (by simp [solid, AV.cells]) ?_
        simp -dsimp only [Vm.G, List.lookup, Nat.reduceAdd, Nat.reduceBEq, Int.reduceBNe, Int.reduceBEq, Nat.reduceLeDiff, q262]
        refine app_sl Tryz.underlying84 (by simp [AV.cells]) (by simp only [List.length_map, List.length_cons, List.length_nil]; omega) ?_
        have ed : done.map ndAv ++ [AV.agg [.v (.int .i64 n.year), .v (.int .i64 n.id), .v (.int .i64 n.parent), .v (.int .i64 n.fund), .v (.int .i64 n.obj), .v (.bool n.abs), .v (.int .i64 n.limit), .v (.int .i64 n.pre), .v (.int .i64 n.enc), .v (.int .i64 n.exp), .v (.int .i64 n.lapsed), .v (.int .i64 n.carried)]] = (done ++ [n]).map ndAv := by
          simp [ndAv, ndCells]
        simp -dsimp only [Vm.G, List.lookup, Nat.reduceAdd, Nat.reduceBEq, Int.reduceBNe, Int.reduceBEq, Nat.reduceLeDiff, q262, ed]
        cases c1 : (n.parent == 0)
        · have d1 : ¬ n.parent = 0 := by simpa using c1
          rw [if_neg d1] at hp
          simp -dsimp only [Vm.G, List.lookup, Nat.reduceAdd, Nat.reduceBEq, Int.reduceBNe, Int.reduceBEq, Nat.reduceLeDiff, q262]
          refine kept_intro ⟨k, by omega, _, le_mk [(0, .ptr R.iv 0), (1, .v (.int .i64 year)), (2, .v (.int .i64 n.parent)), (7, .own true 93 12 ((done ++ [n]).map ndAv))] ?_, n.parent, done ++ [n], by simp only [List.length_append, List.length_cons, List.length_nil]; omega, rfl, by rw [List.append_assoc]; exact hp, rfl⟩
          simp only [List.forall_mem_cons, List.not_mem_nil, false_imp_iff, implies_true, and_true]
          try simp -dsimp only [Vm.G, List.lookup, Nat.reduceAdd, Nat.reduceBEq, Int.reduceBNe, Int.reduceBEq, Nat.reduceLeDiff, q262]
          repeat' first | exact Fg.refl _ | exact Fg.nil _ _ _ (by decide) | refine And.intro ?_ ?_
        · have d1 : n.parent = 0 := by simpa using c1
          rw [if_pos d1] at hp
          simp -dsimp only [Vm.G, List.lookup, Nat.reduceAdd, Nat.reduceBEq, Int.reduceBNe, Int.reduceBEq, Nat.reduceLeDiff, q262]
          rw [← hp] at hq
          exact hq
      · rw [hn] at hp
        have hp : done ++ [] = pathOf f year 8 id := hp
        simp only [ndCells]
        simp -dsimp only [Vm.G, List.lookup, Nat.reduceAdd, Nat.reduceBEq, Int.reduceBNe, Int.reduceBEq, Nat.reduceLeDiff, q262]
        rw [← hp, List.append_nil] at hq
        exact hq
    · have hge : ¬ done.length < 8 := by have := of_decide_eq_false hc; omega
      have hm : m = 0 := by omega
      rw [hm] at hp
      have hp : done ++ [] = pathOf f year 8 id := hp
      simp -dsimp only [Vm.G, List.lookup, Nat.reduceAdd, Nat.reduceBEq, Int.reduceBNe, Int.reduceBEq, Nat.reduceLeDiff, q262]
      rw [← hp, List.append_nil] at hq
      exact hq
theorem does_rtUsed : Does Tryz.prog 308 usedSpec := by
  refine does_of_awp good_nil Tryz.func308 rfl (by decide +kernel) (by decide +kernel) ?_
  rintro args h Q ⟨n, rfl, hq⟩
  refine ⟨by simp [Tryz.f308], ?_⟩
  rw [awpFunc_some (by rfl)]
  unfold usedOf at hq
  simp only [ndCells]
  simp -dsimp only [Vm.G, List.lookup, Nat.reduceAdd, Nat.reduceBEq, Int.reduceBNe, Int.reduceBEq, Nat.reduceLeDiff, q308]
  exact hq
end Go.Proofs.Lx
/- The law TreeEnds. -/
set_option linter.unusedSimpArgs false
set_option linter.unusedVariables false
namespace Go.Proofs.Lx
open Go.Vm
attribute [local irreducible] awpArr awpBin awpMake awpAppend awpCvX awpStrOf awpBinX awpSlice awpBS awpStore awpAlloc awpCopy awpIndex awpDraw awpIdxX awpFa awpField awpLookup awpUpdate awpDelete awpClear awpRange awpNext awpEntry awpBuild awpClearS awpIdxL
theorem isA_nd {y : AV} (h : IsA (.agg [.int .i64, .int .i64, .int .i64, .int .i64, .int .i64, .bool, .int .i64, .int .i64, .int .i64, .int .i64, .int .i64, .int .i64]) y) : ∃ n : Nd, n.ok ∧ y = ndAv n := by
  simp only [IsA, IsAll] at h
  obtain ⟨ys, ⟨y1, r1, rfl, h1, y2, r2, rfl, h2, y3, r3, rfl, h3, y4, r4, rfl, h4, y5, r5, rfl, h5, y6, r6, rfl, h6, y7, r7, rfl, h7, y8, r8, rfl, h8, y9, r9, rfl, h9, y10, r10, rfl, h10, y11, r11, rfl, h11, y12, r12, rfl, h12, rfl⟩, rfl⟩ := h
  obtain ⟨a1, k1, rfl⟩ := isA_int (by simpa only [IsA] using h1)
  obtain ⟨a2, k2, rfl⟩ := isA_int (by simpa only [IsA] using h2)
  obtain ⟨a3, k3, rfl⟩ := isA_int (by simpa only [IsA] using h3)
  obtain ⟨a4, k4, rfl⟩ := isA_int (by simpa only [IsA] using h4)
  obtain ⟨a5, k5, rfl⟩ := isA_int (by simpa only [IsA] using h5)
  obtain ⟨a6, rfl⟩ := h6
  obtain ⟨a7, k7, rfl⟩ := isA_int (by simpa only [IsA] using h7)
  obtain ⟨a8, k8, rfl⟩ := isA_int (by simpa only [IsA] using h8)
  obtain ⟨a9, k9, rfl⟩ := isA_int (by simpa only [IsA] using h9)
  obtain ⟨a10, k10, rfl⟩ := isA_int (by simpa only [IsA] using h10)
  obtain ⟨a11, k11, rfl⟩ := isA_int (by simpa only [IsA] using h11)
  obtain ⟨a12, k12, rfl⟩ := isA_int (by simpa only [IsA] using h12)
  exact ⟨⟨a1, a2, a3, a4, a5, a6, a7, a8, a9, a10, a11, a12⟩, ⟨k1, k2, k3, k4, k5, k7, k8, k9, k10, k11, k12⟩, rfl⟩
end Go.Proofs.Lx
/- Balances: bal; the law BalBack. -/
set_option linter.unusedSimpArgs false
set_option linter.unusedVariables false
namespace Go.Proofs.Lx
open Go.Vm
attribute [local irreducible] awpArr awpBin awpMake awpAppend awpCvX awpStrOf awpBinX awpSlice awpBS awpStore awpAlloc awpCopy awpIndex awpDraw awpIdxX awpFa awpField awpLookup awpUpdate awpDelete awpClear awpRange awpNext awpEntry awpBuild awpClearS awpIdxL awpTree appB awpIdxO eltA treeA
structure Ln where
  fund : Int
  obj : Int
  node : Int
  amt : Int
def lnCells (x : Ln) : List AV := [.v (.int .i64 x.fund), .v (.int .i64 x.obj), .v (.int .i64 x.node), .v (.int .i64 x.amt)]
def lnAv (x : Ln) : AV := .agg (lnCells x)
end Go.Proofs.Lx
/- Documents, pre-encumbrances: docs.Put, pre. -/
set_option linter.unusedSimpArgs false
set_option linter.unusedVariables false
namespace Go.Proofs.Lx
open Go.Vm
attribute [local irreducible] awpArr awpBin awpMake awpAppend awpCvX awpStrOf awpBinX awpSlice awpBS awpStore awpAlloc awpCopy awpIndex awpDraw awpIdxX awpFa awpField awpLookup awpUpdate awpDelete awpClear awpRange awpNext awpEntry awpBuild awpClearS awpIdxL awpTree appB awpIdxO eltA treeA
def askLn (p : Ln → Bool) : Vm.Spec := fun args h Q => ∃ x : Ln, args = [lnAv x] ∧ Q (.v (.bool (p x))) h
def ixSpecLn (T : Tab) : Vm.Spec := fun args h Q => ∃ (g : FuncId) (p : Ln → Bool) (l : List Ln), T g = some (askLn p) ∧ l.length ≤ 9223372036854775807 ∧ args = [.sl 4 (l.map lnAv), .clo g []] ∧ ∀ i : Int, (l.any p = true ↔ 0 ≤ i) → Q (.v (.int .i64 i)) h
theorem does_ixLn {T : Tab} (hT : Good T) : Does Tryz.prog 177 (ixSpecLn T) := by
  refine does_of_awp hT Tryz.func177 rfl (by decide +kernel) (by decide +kernel) ?_
  rintro args h Q ⟨g, p, l, hg, hl, rfl, hq⟩
  refine ⟨by simp [Tryz.f177], ?_⟩
  rw [awpFunc_some (by rfl)]
  simp -dsimp only [Vm.G, List.lookup, Nat.reduceAdd, Nat.reduceBEq, Int.reduceBNe, Int.reduceBEq, Nat.reduceLeDiff, q177]
  refine awp_loop (fun m s h' => ∃ i : Nat, i + m = l.length ∧ h' = h ∧ (∀ j (hj : j < l.length), j < i → p l[j] = false) ∧ s = mk [(0, .sl 4 (l.map lnAv)), (1, .clo g []), (7, .v (.int .i64 l.length)), (8, .v (.int .i64 i))])
    l.length _ (le_mk _ ?_) ⟨0, by omega, rfl, fun j _ hj => by omega, rfl⟩ ?_
  · simp only [List.forall_mem_cons, List.not_mem_nil, false_imp_iff, implies_true, and_true]
    try simp -dsimp only [Vm.G, List.lookup, Nat.reduceAdd, Nat.reduceBEq, Int.reduceBNe, Int.reduceBEq, Nat.reduceLeDiff, q177]
    repeat' first | exact Fg.refl _ | exact Fg.nil _ _ _ (by decide) | refine And.intro ?_ ?_
  · rintro m s h' ⟨i, hi, rfl, hb, rfl⟩
    simp -dsimp only [Vm.G, List.lookup, Nat.reduceAdd, Nat.reduceBEq, Int.reduceBNe, Int.reduceBEq, Nat.reduceLeDiff, q177]
    refine cond_intro (fun hcc => ?_) (fun hcc => ?_)
    · have hlt : i < l.length := by have := of_decide_eq_true hcc; omega
      obtain ⟨x, hx⟩ : ∃ x, l[i] = x := ⟨_, rfl⟩
      have hw : IntKind.i64.wrap ((i : Int) + 1) = ((i + 1 : Nat) : Int) := by rw [wrap_i64 (by omega) (by omega)]; simp
      simp -dsimp only [Vm.G, List.lookup, Nat.reduceAdd, Nat.reduceBEq, Int.reduceBNe, Int.reduceBEq, Nat.reduceLeDiff, q177]
      refine idx_map lnAv l i hlt ?_
      simp only [hx, lnAv, lnCells]
      simp -dsimp only [Vm.G, List.lookup, Nat.reduceAdd, Nat.reduceBEq, Int.reduceBNe, Int.reduceBEq, Nat.reduceLeDiff, q177, AV.cells]
      refine call_one (S := askLn p) hg _ GaL.rfl ⟨x, rfl, ?_⟩
      cases hp : p x
      · simp -dsimp only [Vm.G, List.lookup, Nat.reduceAdd, Nat.reduceBEq, Int.reduceBNe, Int.reduceBEq, Nat.reduceLeDiff, q177]
        refine kept_intro ⟨l.length - (i + 1), by omega, _, le_mk [(0, .sl 4 (l.map lnAv)), (1, .clo g []), (7, .v (.int .i64 l.length)), (8, .v (.int .i64 (i + 1 : Nat)))] ?_, i + 1, by omega, rfl, fun j hj hj2 => ?_, rfl⟩
        · simp only [List.forall_mem_cons, List.not_mem_nil, false_imp_iff, implies_true, and_true, hw]
          try simp -dsimp only [Vm.G, List.lookup, Nat.reduceAdd, Nat.reduceBEq, Int.reduceBNe, Int.reduceBEq, Nat.reduceLeDiff, q177, hw]
          repeat' first | exact Fg.refl _ | exact Fg.nil _ _ _ (by decide) | refine And.intro ?_ ?_
        · by_cases hji : j = i
          · subst hji; rw [hx]; exact hp
          · exact hb j hj (by omega)
      · simp -dsimp only [Vm.G, List.lookup, Nat.reduceAdd, Nat.reduceBEq, Int.reduceBNe, Int.reduceBEq, Nat.reduceLeDiff, q177]
        exact hq _ ⟨fun _ => by omega, fun _ => List.any_eq_true.2 ⟨x, hx ▸ List.getElem_mem hlt, hp⟩⟩
    · have hge : ¬ i < l.length := by have := of_decide_eq_false hcc; omega
      simp -dsimp only [Vm.G, List.lookup, Nat.reduceAdd, Nat.reduceBEq, Int.reduceBNe, Int.reduceBEq, Nat.reduceLeDiff, q177]
      refine hq _ ⟨fun hm => ?_, fun h0 => by omega⟩
      obtain ⟨x, hx, hp⟩ := List.any_eq_true.1 hm
      obtain ⟨j, hj, rfl⟩ := List.getElem_of_mem hx
      rw [hb j hj (by omega)] at hp; cases hp
def hasSpecLn (T : Tab) : Vm.Spec := fun args h Q => ∃ (g : FuncId) (p : Ln → Bool) (l : List Ln), T g = some (askLn p) ∧ l.length ≤ 9223372036854775807 ∧ args = [.sl 4 (l.map lnAv), .clo g []] ∧ Q (.v (.bool (l.any p))) h
theorem does_hasLn {T : Tab} (hT : Good T) : Does Tryz.prog 102 (hasSpecLn T) := by
  refine does_of_awp (good_cons (does_ixLn hT) good_nil) Tryz.func102 rfl (by decide +kernel) (by decide +kernel) ?_
  rintro args h Q ⟨g, p, l, hg, hl, rfl, hq⟩
  refine ⟨by simp [Tryz.f102], ?_⟩
  rw [awpFunc_some (by rfl)]
  simp -dsimp only [Vm.G, List.lookup, Nat.reduceAdd, Nat.reduceBEq, Int.reduceBNe, Int.reduceBEq, Nat.reduceLeDiff, q102]
  refine call_one (S := ixSpecLn T) rfl _ GaL.rfl ⟨g, p, l, hg, hl, rfl, fun i hi => ?_⟩
  have e : decide (i ≥ 0) = l.any p := by
    cases hx : l.any p
    · rw [hx] at hi; exact decide_eq_false fun h0 => by have := hi.2 h0; cases this
    · exact decide_eq_true (hi.1 hx)
  simp -dsimp only [Vm.G, List.lookup, Nat.reduceAdd, Nat.reduceBEq, Int.reduceBNe, Int.reduceBEq, Nat.reduceLeDiff, q102, e]
  exact hq
def rightA (n : Int) : Bool := decide (1 ≤ n) && decide (n ≤ 9007199254740992)
theorem does_amtRight : Does Tryz.prog 152 (predSpec rightA) := by
  refine does_of_awp good_nil Tryz.func152 rfl (by decide +kernel) (by decide +kernel) ?_
  rintro args h Q ⟨n, rfl, hq⟩
  refine ⟨by simp [Tryz.f152], ?_⟩
  rw [awpFunc_some (by rfl)]
  unfold rightA at hq
  simp -dsimp only [Vm.G, List.lookup, Nat.reduceAdd, Nat.reduceBEq, Int.reduceBNe, Int.reduceBEq, Nat.reduceLeDiff, q152]
  cases c1 : decide (1 ≤ n)
  · rw [c1] at hq
    simp -dsimp only [Vm.G, List.lookup, Nat.reduceAdd, Nat.reduceBEq, Int.reduceBNe, Int.reduceBEq, Nat.reduceLeDiff, q152]
    exact hq
  · rw [c1] at hq
    simp -dsimp only [Vm.G, List.lookup, Nat.reduceAdd, Nat.reduceBEq, Int.reduceBNe, Int.reduceBEq, Nat.reduceLeDiff, q152]
    exact hq
def wrongL (x : Ln) : Bool := !rightA x.amt
theorem does_wrongL : Does Tryz.prog 151 (askLn wrongL) := by
  refine does_of_awp (good_cons does_amtRight good_nil) Tryz.func151 rfl (by decide +kernel) (by decide +kernel) ?_
  rintro args h Q ⟨x, rfl, hq⟩
  refine ⟨by simp [Tryz.f151], ?_⟩
  rw [awpFunc_some (by rfl)]
  unfold wrongL at hq
  simp only [lnAv, lnCells]
  simp -dsimp only [Vm.G, List.lookup, Nat.reduceAdd, Nat.reduceBEq, Int.reduceBNe, Int.reduceBEq, Nat.reduceLeDiff, q151]
  refine call_one (S := predSpec rightA) rfl _ GaL.rfl ⟨x.amt, rfl, ?_⟩
  simp -dsimp only [Vm.G, List.lookup, Nat.reduceAdd, Nat.reduceBEq, Int.reduceBNe, Int.reduceBEq, Nat.reduceLeDiff, q151]
  exact hq
def wrongT : Tab := tab [(151, askLn wrongL)]
theorem good_wrongT : Good wrongT := good_cons does_wrongL good_nil
/-- What is wrong with lines. -/
def preCheck (l : List Ln) : Int := if l.length = 0 ∨ 6 < l.length ∨ l.any wrongL = true then 1 else 0
def preCheckSpec : Vm.Spec := fun args h Q => ∃ l : List Ln, l.length ≤ 9223372036854775807 ∧ args = [.sl 4 (l.map lnAv)] ∧ Q (.v (.int .i64 (preCheck l))) h
theorem does_preCheck : Does Tryz.prog 72 preCheckSpec := by
  refine does_of_awp (good_cons (does_hasLn good_wrongT) good_nil) Tryz.func72 rfl (by decide +kernel) (by decide +kernel) ?_
  rintro args h Q ⟨l, hl, rfl, hq⟩
  refine ⟨by simp [Tryz.f72], ?_⟩
  rw [awpFunc_some (by rfl)]
  unfold preCheck at hq
  simp -dsimp only [Vm.G, List.lookup, Nat.reduceAdd, Nat.reduceBEq, Int.reduceBNe, Int.reduceBEq, Nat.reduceLeDiff, q72]
  cases c0 : ((l.length : Int) == 0)
  · have d0 : ¬ l.length = 0 := by intro e; rw [e] at c0; simp at c0
    simp -dsimp only [Vm.G, List.lookup, Nat.reduceAdd, Nat.reduceBEq, Int.reduceBNe, Int.reduceBEq, Nat.reduceLeDiff, q72]
    cases c6 : decide ((l.length : Int) > 6)
    · have d6 : ¬ 6 < l.length := by have := of_decide_eq_false c6; omega
      simp -dsimp only [Vm.G, List.lookup, Nat.reduceAdd, Nat.reduceBEq, Int.reduceBNe, Int.reduceBEq, Nat.reduceLeDiff, q72]
      refine call_one (S := hasSpecLn wrongT) rfl _ GaL.rfl ⟨151, wrongL, l, rfl, hl, rfl, ?_⟩
      cases ca : l.any wrongL
      · rw [ca, if_neg (by simp [d0, d6])] at hq
        simp -dsimp only [Vm.G, List.lookup, Nat.reduceAdd, Nat.reduceBEq, Int.reduceBNe, Int.reduceBEq, Nat.reduceLeDiff, q72]
        exact hq
      · rw [ca, if_pos (.inr (.inr rfl))] at hq
        simp -dsimp only [Vm.G, List.lookup, Nat.reduceAdd, Nat.reduceBEq, Int.reduceBNe, Int.reduceBEq, Nat.reduceLeDiff, q72]
        exact hq
    · have d6 : 6 < l.length := by have := of_decide_eq_true c6; omega
      rw [if_pos (.inr (.inl d6))] at hq
      simp -dsimp only [Vm.G, List.lookup, Nat.reduceAdd, Nat.reduceBEq, Int.reduceBNe, Int.reduceBEq, Nat.reduceLeDiff, q72]
      exact hq
  · have d0 : l.length = 0 := by have : (l.length : Int) = 0 := by simpa using c0
                                 omega
    rw [if_pos (.inl d0)] at hq
    simp -dsimp only [Vm.G, List.lookup, Nat.reduceAdd, Nat.reduceBEq, Int.reduceBNe, Int.reduceBEq, Nat.reduceLeDiff, q72]
    exact hq
structure Dl where
  node : Int
  orig : Int
  liq : Int
  can : Int
def dlCells (x : Dl) : List AV := [.v (.int .i64 x.node), .v (.int .i64 x.orig), .v (.int .i64 x.liq), .v (.int .i64 x.can)]
def dlAv (x : Dl) : AV := .agg (dlCells x)
def Dl.ok (x : Dl) : Prop := I64 x.node ∧ I64 x.orig ∧ I64 x.liq ∧ I64 x.can
structure Dc where
  id : Int
  kind : Int
  year : Int
  frm : Int
  lines : Int
def dcCells (d : Dc) : List AV := [.v (.int .i64 d.id), .v (.int .i64 d.kind), .v (.int .i64 d.year), .v (.int .i64 d.frm), .v (.int .i64 d.lines)]
def Dc.ok (d : Dc) : Prop := I64 d.id ∧ I64 d.kind ∧ I64 d.year ∧ I64 d.frm ∧ I64 d.lines
def dlK (id i : Int) : List UInt8 := keyOf 76 [id, i]
def dlV (x : Dl) : List UInt8 := packOf [x.node, x.orig, x.liq, x.can]
def dcK (id : Int) : List UInt8 := keyOf 68 [id]
def dcV (d : Dc) : List UInt8 := packOf [d.kind, d.year, d.frm, d.lines]
theorem dlK_length (id i : Int) : (dlK id i).length = 9 := by simp [dlK, keyOf, packs, be_length]
theorem dcK_length (id : Int) : (dcK id).length = 5 := by simp [dcK, keyOf, packs, be_length]
theorem dlV_length (x : Dl) : (dlV x).length = 32 := by simp [dlV, packOf, packs, be_length]
theorem dcV_length (d : Dc) : (dcV d).length = 32 := by simp [dcV, packOf, packs, be_length]
theorem right_dl (id i : Int) (x : Dl) : rightKV (dlK id i) (dlV x) = true := by simp [rightKV, dlK_length, dlV_length]
theorem right_dc (id : Int) (d : Dc) : rightKV (dcK id) (dcV d) = true := by simp [rightKV, dcK_length, dcV_length]
theorem does_docLines : Does Tryz.prog 181 (tabSpec 76 2 4) := by
  refine does_of_awp good_nil Tryz.func181 rfl (by decide +kernel) (by decide +kernel) ?_
  rintro args h Q ⟨rfl, hq⟩
  refine ⟨by simp [Tryz.f181], ?_⟩
  rw [awpFunc_some (by rfl)]
  simp -dsimp only [Vm.G, List.lookup, Nat.reduceAdd, Nat.reduceBEq, Int.reduceBNe, Int.reduceBEq, Nat.reduceLeDiff, q181]
  exact hq
theorem does_documents : Does Tryz.prog 183 (tabSpec 68 1 4) := by
  refine does_of_awp good_nil Tryz.func183 rfl (by decide +kernel) (by decide +kernel) ?_
  rintro args h Q ⟨rfl, hq⟩
  refine ⟨by simp [Tryz.f183], ?_⟩
  rw [awpFunc_some (by rfl)]
  simp -dsimp only [Vm.G, List.lookup, Nat.reduceAdd, Nat.reduceBEq, Int.reduceBNe, Int.reduceBEq, Nat.reduceLeDiff, q183]
  exact hq
def rdlSpec : Vm.Spec := fun args h Q => ∃ (id i : Int) (x : Dl), I64 id ∧ I64 i ∧ x.ok ∧ args = [.v (.int .i64 id), .v (.int .i64 i), dlAv x] ∧ Q (.agg [.sl 1 ((dlK id i).map encB), .sl 1 ((dlV x).map encB)]) h
set_option maxRecDepth 20000 in
theorem does_recDl : Does Tryz.prog 107 rdlSpec := by
  refine does_of_awp (good_cons does_docLines (good_cons does_pair good_nil)) Tryz.func107 rfl (by decide +kernel) (by decide +kernel) ?_
  rintro args h Q ⟨id, i, x, hid, hi, ⟨o1, o2, o3, o4⟩, rfl, hq⟩
  refine ⟨by simp [Tryz.f107], ?_⟩
  rw [awpFunc_some (by rfl)]
  simp only [dlAv, dlCells]
  simp -dsimp only [Vm.G, List.lookup, Nat.reduceAdd, Nat.reduceBEq, Int.reduceBNe, Int.reduceBEq, Nat.reduceLeDiff, q107]
  refine draw_cont [5] (.take 1 (.take 2 (.take 3 (.take 4 (.take 5 (.take 6 (.take 7 (.take 8 (.take 9 (.take 10 (.alt 0 (.alt 11 (.alt 12 (.alt 13 (.done) .stop) .stop) .stop) (.alt 11 (.alt 0 (.alt 12 (.alt 13 (.done) .stop) .stop) .stop) (.stop))))))))))))) (fun s h2 => h2 = h ∧ s 6 = .box [.sl 1 ((dlK id i).map encB), .sl 1 ((dlV x).map encB)]) (by kernel_rfl) (by kernel_rfl) (by kernel_rfl) (by decide) ?_ ?_
  · have hm : ∀ m ∈ [id, i, x.node, x.orig, x.liq, x.can], I64 m := fun m hm => by
      simp only [List.mem_cons, List.not_mem_nil, or_false] at hm
      rcases hm with rfl | rfl | rfl | rfl | rfl | rfl <;> assumption
    have e1 : keyOf 76 (([id, i, x.node, x.orig, x.liq, x.can] : List Int).take 2) = dlK id i := rfl
    have e2 : packOf (([id, i, x.node, x.orig, x.liq, x.can] : List Int).drop 2) = dlV x := rfl
    repeat' first
      | with_reducible exact True.intro
      | simp -dsimp only [Vm.G, List.lookup, Nat.reduceAdd, Nat.reduceBEq, Int.reduceBNe, Int.reduceBEq, Nat.reduceLeDiff, q107, e1, e2]
      | refine call_one (S := tabSpec 76 2 4) rfl _ GaL.rfl ⟨rfl, ?_⟩
      | refine call_one (S := pairSpec) rfl _ GaL.rfl ⟨76, 2, 4, [id, i, x.node, x.orig, x.liq, x.can], by simp, by simp, hm, rfl, ?_⟩
      | refine bs_intro zr3 (by decide) (by decide) rfl rfl (by simp [solid, AV.cells]) ?_
      | refine tree_alt ?_ ?_
      | repeat' first | rfl | exact True.intro | refine And.intro ?_ ?_
  · rintro s h2 ⟨rfl, e6⟩
    simp -dsimp only [Vm.G, List.lookup, Nat.reduceAdd, Nat.reduceBEq, Int.reduceBNe, Int.reduceBEq, Nat.reduceLeDiff, q107, e6]
    exact hq
def rdcSpec : Vm.Spec := fun args h Q => ∃ d : Dc, d.ok ∧ args = [.agg (dcCells d)] ∧ Q (.agg [.sl 1 ((dcK d.id).map encB), .sl 1 ((dcV d).map encB)]) h
set_option maxRecDepth 20000 in
theorem does_recDc : Does Tryz.prog 108 rdcSpec := by
  refine does_of_awp (good_cons does_documents (good_cons does_pair good_nil)) Tryz.func108 rfl (by decide +kernel) (by decide +kernel) ?_
  rintro args h Q ⟨d, ⟨o1, o2, o3, o4, o5⟩, rfl, hq⟩
  refine ⟨by simp [Tryz.f108], ?_⟩
  rw [awpFunc_some (by rfl)]
  simp only [dcCells]
  simp -dsimp only [Vm.G, List.lookup, Nat.reduceAdd, Nat.reduceBEq, Int.reduceBNe, Int.reduceBEq, Nat.reduceLeDiff, q108]
  refine draw_cont [1] (.take 1 (.take 2 (.take 3 (.take 4 (.take 5 (.take 6 (.take 7 (.take 8 (.take 9 (.take 10 (.alt 0 (.alt 11 (.alt 12 (.alt 13 (.done) .stop) .stop) .stop) (.alt 11 (.alt 0 (.alt 12 (.alt 13 (.done) .stop) .stop) .stop) (.stop))))))))))))) (fun s h2 => h2 = h ∧ s 2 = .box [.sl 1 ((dcK d.id).map encB), .sl 1 ((dcV d).map encB)]) (by kernel_rfl) (by kernel_rfl) (by kernel_rfl) (by decide) ?_ ?_
  · have hm : ∀ m ∈ [d.id, d.kind, d.year, d.frm, d.lines], I64 m := fun m hm => by
      simp only [List.mem_cons, List.not_mem_nil, or_false] at hm
      rcases hm with rfl | rfl | rfl | rfl | rfl <;> assumption
    have e1 : keyOf 68 (([d.id, d.kind, d.year, d.frm, d.lines] : List Int).take 1) = dcK d.id := rfl
    have e2 : packOf (([d.id, d.kind, d.year, d.frm, d.lines] : List Int).drop 1) = dcV d := rfl
    repeat' first
      | with_reducible exact True.intro
      | simp -dsimp only [Vm.G, List.lookup, Nat.reduceAdd, Nat.reduceBEq, Int.reduceBNe, Int.reduceBEq, Nat.reduceLeDiff, q108, e1, e2]
      | refine call_one (S := tabSpec 68 1 4) rfl _ GaL.rfl ⟨rfl, ?_⟩
      | refine call_one (S := pairSpec) rfl _ GaL.rfl ⟨68, 1, 4, [d.id, d.kind, d.year, d.frm, d.lines], by simp, by simp, hm, rfl, ?_⟩
      | refine bs_intro zr3 (by decide) (by decide) rfl rfl (by simp [solid, AV.cells]) ?_
      | refine tree_alt ?_ ?_
      | repeat' first | rfl | exact True.intro | refine And.intro ?_ ?_
  · rintro s h2 ⟨rfl, e2⟩
    simp -dsimp only [Vm.G, List.lookup, Nat.reduceAdd, Nat.reduceBEq, Int.reduceBNe, Int.reduceBEq, Nat.reduceLeDiff, q108, e2]
    exact hq
def dsetSpec : Vm.Spec := fun args h Q => ∃ (V : VId) (f : Fun) (k v : List UInt8), args = [.agg [.ptr V.iv 0], .agg [.sl 1 (k.map encB), .sl 1 (v.map encB)]] ∧ rightKV k v = true ∧ isView h V f ∧ ∀ h', isView h' V (upd f k (some v)) → Same h h' [V.ic] → Q (.v (.int .i64 0)) h'
theorem does_dset : Does Tryz.prog 106 dsetSpec := by
  refine does_of_awp (good_cons does_vput good_nil) Tryz.func106 rfl (by decide +kernel) (by decide +kernel) ?_
  rintro args h Q ⟨V, f, k, v, rfl, hr, hV, hq⟩
  refine ⟨by simp [Tryz.f106], ?_⟩
  rw [awpFunc_some (by rfl)]
  simp -dsimp only [Vm.G, List.lookup, Nat.reduceAdd, Nat.reduceBEq, Int.reduceBNe, Int.reduceBEq, Nat.reduceLeDiff, q106]
  refine call_one (S := vputSpec) rfl _ GaL.rfl ⟨V, f, k, v, rfl, hV, fun _ h' g1 g2 => ?_, fun hc => by rw [hr] at hc; cases hc⟩
  simp -dsimp only [Vm.G, List.lookup, Nat.reduceAdd, Nat.reduceBEq, Int.reduceBNe, Int.reduceBEq, Nat.reduceLeDiff, q106]
  exact hq h' g1 g2
/-- A document's lines, put. -/
def putLines (id : Int) : Nat → List Dl → Fun → Fun
  | _, [], f => f
  | i, x :: r, f => putLines id (i + 1) r (upd f (dlK id i) (some (dlV x)))
def docsF (f : Fun) (id : Int) (d : Dc) (l : List Dl) : Fun := upd (putLines id 0 l (upd f (seqKey 2) (some (be 8 id)))) (dcK id) (some (dcV { d with id := id, lines := l.length }))
def docsPut (f : Fun) (d : Dc) (l : List Dl) : Fun × Int × Int :=
  if l.length = 0 ∨ 6 < l.length then (f, 0, 1)
  else if readOf f (seqKey 2) < 0 ∨ 4294967294 < readOf f (seqKey 2) then (f, 0, 9)
  else (docsF f (readOf f (seqKey 2) + 1) d l, readOf f (seqKey 2) + 1, 0)
def docsPutSpec : Vm.Spec := fun args h Q => ∃ (V : VId) (f : Fun) (d : Dc) (l : List Dl), d.ok ∧ (∀ x ∈ l, x.ok) ∧ args = [.ptr V.iv 0, .agg (dcCells d), .sl 4 (l.map dlAv)] ∧ isView h V f ∧
  ∀ h', isView h' V (docsPut f d l).1 → Same h h' [V.ic] → Q (.tup [.v (.int .i64 (docsPut f d l).2.1), .v (.int .i64 (docsPut f d l).2.2)]) h'
set_option maxRecDepth 20000 in
set_option maxHeartbeats 1000000 in
theorem does_docsPut : Does Tryz.prog 36 docsPutSpec := by
  refine does_of_awp (good_cons does_seqNext (good_cons does_recDl (good_cons does_dset (good_cons does_recDc good_nil)))) Tryz.func36 rfl (by decide +kernel) (by decide +kernel) ?_
  rintro args h Q ⟨V, f, d, l, hd, hx, rfl, hV, hq⟩
  refine ⟨by simp [Tryz.f36], ?_⟩
  rw [awpFunc_some (by rfl)]
  unfold docsPut at hq
  simp only [dcCells]
  simp -dsimp only [Vm.G, List.lookup, Nat.reduceAdd, Nat.reduceBEq, Int.reduceBNe, Int.reduceBEq, Nat.reduceLeDiff, q36]
  cases c0 : ((l.length : Int) == 0)
  · have d0 : ¬ l.length = 0 := by intro e; rw [e] at c0; simp at c0
    simp -dsimp only [Vm.G, List.lookup, Nat.reduceAdd, Nat.reduceBEq, Int.reduceBNe, Int.reduceBEq, Nat.reduceLeDiff, q36]
    cases c6 : decide ((l.length : Int) > 6)
    · have d6 : ¬ 6 < l.length := by have := of_decide_eq_false c6; omega
      have hr := readOf_range f (seqKey 2)
      simp only [if_neg (show ¬ (l.length = 0 ∨ 6 < l.length) by omega)] at hq
      simp -dsimp only [Vm.G, List.lookup, Nat.reduceAdd, Nat.reduceBEq, Int.reduceBNe, Int.reduceBEq, Nat.reduceLeDiff, q36]
      refine call_one (S := seqNextSpec) rfl _ GaL.rfl ⟨V, f, 2, rfl, hV, fun hr => ?_, fun hn h1 g1 g2 => ?_⟩
      · simp only [if_pos hr] at hq
        simp -dsimp only [Vm.G, List.lookup, Nat.reduceAdd, Nat.reduceBEq, Int.reduceBNe, Int.reduceBEq, Nat.reduceLeDiff, q36]
        exact hq h hV (.refl _ _)
      · simp only [if_neg hn] at hq
        unfold docsF at hq
        have hidr : I64 (readOf f (seqKey 2) + 1) := by unfold I64 at hr ⊢; omega
        generalize readOf f (seqKey 2) + 1 = id at hq g1 hidr ⊢
        generalize upd f (seqKey 2) (some (be 8 id)) = f1 at hq g1
        simp -dsimp only [Vm.G, List.lookup, Nat.reduceAdd, Nat.reduceBEq, Int.reduceBNe, Int.reduceBEq, Nat.reduceLeDiff, q36]
        refine awp_loop (fun m s h' => ∃ (i : Nat) (g : Fun) (s10 : AV), i + m = l.length ∧ isView h' V g ∧ Same h h' [V.ic] ∧ putLines id i (l.drop i) g = putLines id 0 l f1 ∧ (s10 = .box [.ptr V.iv 0] ∨ s10 = .eptr [.ptr V.iv 0]) ∧ s = mk [(2, .sl 4 (l.map dlAv)), (4, .box [.v (.int .i64 d.id), .v (.int .i64 d.kind), .v (.int .i64 d.year), .v (.int .i64 d.frm), .v (.int .i64 d.lines)]), (8, .v (.int .i64 id)), (10, s10), (33, .sl 4 (l.map dlAv)), (34, .v (.int .i64 l.length)), (35, .v (.int .i64 (i : Nat)))])
          l.length _ (le_mk _ ?_) ⟨0, f1, .box [.ptr V.iv 0], by omega, g1, g2, rfl, .inl rfl, rfl⟩ ?_
        · simp only [List.forall_mem_cons, List.not_mem_nil, false_imp_iff, implies_true, and_true]
          try simp -dsimp only [Vm.G, List.lookup, Nat.reduceAdd, Nat.reduceBEq, Int.reduceBNe, Int.reduceBEq, Nat.reduceLeDiff, q36]
          repeat' first | exact Fg.refl _ | exact Fg.nil _ _ _ (by decide) | refine And.intro ?_ ?_
        · clear g1 g2 hV
          rintro m s h' ⟨i, g, s10, hi, hV, hsm, hp, h10, rfl⟩
          simp -dsimp only [Vm.G, List.lookup, Nat.reduceAdd, Nat.reduceBEq, Int.reduceBNe, Int.reduceBEq, Nat.reduceLeDiff, q36]
          refine cond_intro (fun hcc => ?_) (fun hcc => ?_)
          · have hlt : i < l.length := by have := of_decide_eq_true hcc; omega
            have hw : IntKind.i64.wrap ((i : Int) + 1) = ((i + 1 : Nat) : Int) := by rw [wrap_i64 (by omega) (by omega)]; simp
            have hok := hx l[i] (List.getElem_mem hlt)
            rw [List.drop_eq_getElem_cons hlt] at hp
            simp -dsimp only [Vm.G, List.lookup, Nat.reduceAdd, Nat.reduceBEq, Int.reduceBNe, Int.reduceBEq, Nat.reduceLeDiff, q36]
            refine idx_map dlAv l i hlt ?_
            generalize l[i] = x at hok hp
            have hii : I64 (i : Int) := by unfold I64; omega
            simp only [dlAv, dlCells]
            simp -dsimp only [Vm.G, List.lookup, Nat.reduceAdd, Nat.reduceBEq, Int.reduceBNe, Int.reduceBEq, Nat.reduceLeDiff, q36, AV.cells]
            rcases h10 with rfl | rfl
            · refine draw_cont [10, 12] (.take 0 (.take 1 (.take 2 (.take 3 (.alt 4 (.alt 5 (.alt 6 (.done) .stop) .stop) .stop))))) (fun s h2 => isView h2 V (upd g (dlK id i) (some (dlV x))) ∧ Same h' h2 [V.ic] ∧ s 13 = .v (.int .i64 0) ∧ s 2 = .sl 4 (l.map dlAv) ∧ s 4 = .box [.v (.int .i64 d.id), .v (.int .i64 d.kind), .v (.int .i64 d.year), .v (.int .i64 d.frm), .v (.int .i64 d.lines)] ∧ s 8 = .v (.int .i64 id) ∧ s 10 = .eptr [.ptr V.iv 0] ∧ s 33 = .sl 4 (l.map dlAv) ∧ s 34 = .v (.int .i64 l.length) ∧ s 35 = .v (.int .i64 i)) (by kernel_rfl) (by kernel_rfl) (by kernel_rfl) (by decide) ?_ ?_
              · simp -dsimp only [Vm.G, List.lookup, Nat.reduceAdd, Nat.reduceBEq, Int.reduceBNe, Int.reduceBEq, Nat.reduceLeDiff, q36]
                refine call_one (S := rdlSpec) rfl _ GaL.rfl ⟨id, i, x, hidr, hii, hok, rfl, ?_⟩
                simp -dsimp only [Vm.G, List.lookup, Nat.reduceAdd, Nat.reduceBEq, Int.reduceBNe, Int.reduceBEq, Nat.reduceLeDiff, q36]
                refine call_one (S := dsetSpec) rfl _ GaL.rfl ⟨V, g, dlK id i, dlV x, rfl, right_dl id i x, hV, fun h2 g1 g2 => ?_⟩
                simp -dsimp only [Vm.G, List.lookup, Nat.reduceAdd, Nat.reduceBEq, Int.reduceBNe, Int.reduceBEq, Nat.reduceLeDiff, q36]
                refine ⟨g1, g2, ?_⟩
                repeat' first | rfl | exact True.intro | refine And.intro ?_ ?_
              · rintro s h2 ⟨g1, g2, e13, e2, e4, e8, e10, e33, e34, e35⟩
                simp -dsimp only [Vm.G, List.lookup, Nat.reduceAdd, Nat.reduceBEq, Int.reduceBNe, Int.reduceBEq, Nat.reduceLeDiff, q36, e13, e2, e4, e8, e10, e33, e34, e35]
                refine kept_intro ⟨l.length - (i + 1), by omega, _, le_mk [(2, .sl 4 (l.map dlAv)), (4, .box [.v (.int .i64 d.id), .v (.int .i64 d.kind), .v (.int .i64 d.year), .v (.int .i64 d.frm), .v (.int .i64 d.lines)]), (8, .v (.int .i64 id)), (10, .eptr [.ptr V.iv 0]), (33, .sl 4 (l.map dlAv)), (34, .v (.int .i64 l.length)), (35, .v (.int .i64 (i + 1 : Nat)))] ?_, i + 1, _, _, by omega, g1, hsm.trans g2, hp, .inr rfl, rfl⟩
                simp only [List.forall_mem_cons, List.not_mem_nil, false_imp_iff, implies_true, and_true, hw, e2, e4, e8, e10, e33, e34, e35]
                try simp -dsimp only [Vm.G, List.lookup, Nat.reduceAdd, Nat.reduceBEq, Int.reduceBNe, Int.reduceBEq, Nat.reduceLeDiff, q36, hw, e2, e4, e8, e10, e33, e34, e35]
                repeat' first | exact Fg.refl _ | exact Fg.nil _ _ _ (by decide) | refine And.intro ?_ ?_
            · refine draw_cont [12] (.take 0 (.take 1 (.take 2 (.take 3 (.alt 4 (.alt 5 (.alt 6 (.done) .stop) .stop) .stop))))) (fun s h2 => isView h2 V (upd g (dlK id i) (some (dlV x))) ∧ Same h' h2 [V.ic] ∧ s 13 = .v (.int .i64 0) ∧ s 2 = .sl 4 (l.map dlAv) ∧ s 4 = .box [.v (.int .i64 d.id), .v (.int .i64 d.kind), .v (.int .i64 d.year), .v (.int .i64 d.frm), .v (.int .i64 d.lines)] ∧ s 8 = .v (.int .i64 id) ∧ s 10 = .eptr [.ptr V.iv 0] ∧ s 33 = .sl 4 (l.map dlAv) ∧ s 34 = .v (.int .i64 l.length) ∧ s 35 = .v (.int .i64 i)) (by kernel_rfl) (by kernel_rfl) (by kernel_rfl) (by decide) ?_ ?_
              · simp -dsimp only [Vm.G, List.lookup, Nat.reduceAdd, Nat.reduceBEq, Int.reduceBNe, Int.reduceBEq, Nat.reduceLeDiff, q36]
                refine call_one (S := rdlSpec) rfl _ GaL.rfl ⟨id, i, x, hidr, hii, hok, rfl, ?_⟩
                simp -dsimp only [Vm.G, List.lookup, Nat.reduceAdd, Nat.reduceBEq, Int.reduceBNe, Int.reduceBEq, Nat.reduceLeDiff, q36]
                refine call_one (S := dsetSpec) rfl _ GaL.rfl ⟨V, g, dlK id i, dlV x, rfl, right_dl id i x, hV, fun h2 g1 g2 => ?_⟩
                simp -dsimp only [Vm.G, List.lookup, Nat.reduceAdd, Nat.reduceBEq, Int.reduceBNe, Int.reduceBEq, Nat.reduceLeDiff, q36]
                refine ⟨g1, g2, ?_⟩
                repeat' first | rfl | exact True.intro | refine And.intro ?_ ?_
              · rintro s h2 ⟨g1, g2, e13, e2, e4, e8, e10, e33, e34, e35⟩
                simp -dsimp only [Vm.G, List.lookup, Nat.reduceAdd, Nat.reduceBEq, Int.reduceBNe, Int.reduceBEq, Nat.reduceLeDiff, q36, e13, e2, e4, e8, e10, e33, e34, e35]
                refine kept_intro ⟨l.length - (i + 1), by omega, _, le_mk [(2, .sl 4 (l.map dlAv)), (4, .box [.v (.int .i64 d.id), .v (.int .i64 d.kind), .v (.int .i64 d.year), .v (.int .i64 d.frm), .v (.int .i64 d.lines)]), (8, .v (.int .i64 id)), (10, .eptr [.ptr V.iv 0]), (33, .sl 4 (l.map dlAv)), (34, .v (.int .i64 l.length)), (35, .v (.int .i64 (i + 1 : Nat)))] ?_, i + 1, _, _, by omega, g1, hsm.trans g2, hp, .inr rfl, rfl⟩
                simp only [List.forall_mem_cons, List.not_mem_nil, false_imp_iff, implies_true, and_true, hw, e2, e4, e8, e10, e33, e34, e35]
                try simp -dsimp only [Vm.G, List.lookup, Nat.reduceAdd, Nat.reduceBEq, Int.reduceBNe, Int.reduceBEq, Nat.reduceLeDiff, q36, hw, e2, e4, e8, e10, e33, e34, e35]
                repeat' first | exact Fg.refl _ | exact Fg.nil _ _ _ (by decide) | refine And.intro ?_ ?_
          · have hge : ¬ i < l.length := by have := of_decide_eq_false hcc; omega
            rw [List.drop_of_length_le (by omega)] at hp
            have hp : g = putLines id 0 l f1 := hp
            rw [← hp] at hq
            obtain ⟨o1, o2, o3, o4, o5⟩ := hd
            have hdok : ({ d with id := id, lines := (l.length : Int) } : Dc).ok := ⟨hidr, o2, o3, o4, by unfold I64; show -9223372036854775808 ≤ (l.length : Int) ∧ (l.length : Int) ≤ _; omega⟩
            simp -dsimp only [Vm.G, List.lookup, Nat.reduceAdd, Nat.reduceBEq, Int.reduceBNe, Int.reduceBEq, Nat.reduceLeDiff, q36]
            have fin : ∀ {s : Slots}, True := fun {_} => trivial
            rcases h10 with rfl | rfl
            · refine draw_cont [10, 4] (.take 0 (.take 1 (.alt 2 (.alt 3 (.alt 4 (.done) .stop) .stop) .stop))) (fun s h2 => isView h2 V (upd g (dcK id) (some (dcV { d with id := id, lines := l.length }))) ∧ Same h' h2 [V.ic] ∧ s 14 = .v (.int .i64 0) ∧ s 8 = .v (.int .i64 id)) (by kernel_rfl) (by kernel_rfl) (by kernel_rfl) (by decide) ?_ ?_
              · simp -dsimp only [Vm.G, List.lookup, Nat.reduceAdd, Nat.reduceBEq, Int.reduceBNe, Int.reduceBEq, Nat.reduceLeDiff, q36]
                refine call_one (S := rdcSpec) rfl _ GaL.rfl ⟨{ d with id := id, lines := l.length }, hdok, rfl, ?_⟩
                simp -dsimp only [Vm.G, List.lookup, Nat.reduceAdd, Nat.reduceBEq, Int.reduceBNe, Int.reduceBEq, Nat.reduceLeDiff, q36]
                refine call_one (S := dsetSpec) rfl _ GaL.rfl ⟨V, g, dcK id, dcV { d with id := id, lines := l.length }, rfl, right_dc id _, hV, fun h2 g1 g2 => ?_⟩
                simp -dsimp only [Vm.G, List.lookup, Nat.reduceAdd, Nat.reduceBEq, Int.reduceBNe, Int.reduceBEq, Nat.reduceLeDiff, q36]
                refine ⟨g1, g2, ?_⟩
                repeat' first | rfl | exact True.intro | refine And.intro ?_ ?_
              · rintro s h2 ⟨g1, g2, e14, e8⟩
                simp -dsimp only [Vm.G, List.lookup, Nat.reduceAdd, Nat.reduceBEq, Int.reduceBNe, Int.reduceBEq, Nat.reduceLeDiff, q36, e14, e8]
                exact hq h2 g1 (hsm.trans g2)
            · refine draw_cont [4] (.take 0 (.take 1 (.alt 2 (.alt 3 (.alt 4 (.done) .stop) .stop) .stop))) (fun s h2 => isView h2 V (upd g (dcK id) (some (dcV { d with id := id, lines := l.length }))) ∧ Same h' h2 [V.ic] ∧ s 14 = .v (.int .i64 0) ∧ s 8 = .v (.int .i64 id)) (by kernel_rfl) (by kernel_rfl) (by kernel_rfl) (by decide) ?_ ?_
              · simp -dsimp only [Vm.G, List.lookup, Nat.reduceAdd, Nat.reduceBEq, Int.reduceBNe, Int.reduceBEq, Nat.reduceLeDiff, q36]
                refine call_one (S := rdcSpec) rfl _ GaL.rfl ⟨{ d with id := id, lines := l.length }, hdok, rfl, ?_⟩
                simp -dsimp only [Vm.G, List.lookup, Nat.reduceAdd, Nat.reduceBEq, Int.reduceBNe, Int.reduceBEq, Nat.reduceLeDiff, q36]
                refine call_one (S := dsetSpec) rfl _ GaL.rfl ⟨V, g, dcK id, dcV { d with id := id, lines := l.length }, rfl, right_dc id _, hV, fun h2 g1 g2 => ?_⟩
                simp -dsimp only [Vm.G, List.lookup, Nat.reduceAdd, Nat.reduceBEq, Int.reduceBNe, Int.reduceBEq, Nat.reduceLeDiff, q36]
                refine ⟨g1, g2, ?_⟩
                repeat' first | rfl | exact True.intro | refine And.intro ?_ ?_
              · rintro s h2 ⟨g1, g2, e14, e8⟩
                simp -dsimp only [Vm.G, List.lookup, Nat.reduceAdd, Nat.reduceBEq, Int.reduceBNe, Int.reduceBEq, Nat.reduceLeDiff, q36, e14, e8]
                exact hq h2 g1 (hsm.trans g2)
    · have d6 : 6 < l.length := by have := of_decide_eq_true c6; omega
      simp only [if_pos (show l.length = 0 ∨ 6 < l.length from .inr d6)] at hq
      simp -dsimp only [Vm.G, List.lookup, Nat.reduceAdd, Nat.reduceBEq, Int.reduceBNe, Int.reduceBEq, Nat.reduceLeDiff, q36]
      exact hq h hV (.refl _ _)
  · have d0 : l.length = 0 := by
      have : (l.length : Int) = 0 := by simpa using c0
      omega
    simp only [if_pos (show l.length = 0 ∨ 6 < l.length from .inl d0)] at hq
    simp -dsimp only [Vm.G, List.lookup, Nat.reduceAdd, Nat.reduceBEq, Int.reduceBNe, Int.reduceBEq, Nat.reduceLeDiff, q36]
    exact hq h hV (.refl _ _)
def ownL (l : List Ln) : List Dl := l.map fun x => ⟨x.node, x.amt, 0, 0⟩
def linesSpec : Vm.Spec := fun args h Q => ∃ l : List Ln, l.length ≤ 1073741824 ∧ args = [.sl 4 (l.map lnAv)] ∧ Q (.own true 62 4 ((ownL l).map dlAv)) h
theorem does_preLines : Does Tryz.prog 132 linesSpec := by
  refine does_of_awp good_nil Tryz.func132 rfl (by decide +kernel) (by decide +kernel) ?_
  rintro args h Q ⟨l, hl, rfl, hq⟩
  refine ⟨by simp [Tryz.f132], ?_⟩
  rw [awpFunc_some (by rfl)]
  simp -dsimp only [Vm.G, List.lookup, Nat.reduceAdd, Nat.reduceBEq, Int.reduceBNe, Int.reduceBEq, Nat.reduceLeDiff, q132]
  refine awp_loop (fun m s h' => ∃ i : Nat, i + m = l.length ∧ h' = h ∧ s = mk [(3, .own true 62 4 ((ownL (l.take i)).map dlAv)), (6, .sl 4 (l.map lnAv)), (7, .v (.int .i64 l.length)), (8, .v (.int .i64 i))])
    l.length _ (le_mk _ ?_) ⟨0, by omega, rfl, rfl⟩ ?_
  · simp only [List.forall_mem_cons, List.not_mem_nil, false_imp_iff, implies_true, and_true]
    try simp -dsimp only [Vm.G, List.lookup, Nat.reduceAdd, Nat.reduceBEq, Int.reduceBNe, Int.reduceBEq, Nat.reduceLeDiff, q132]
    repeat' first | exact Fg.refl _ | exact Fg.nil _ _ _ (by decide) | refine And.intro ?_ ?_
  · rintro m s h' ⟨i, hi, rfl, rfl⟩
    simp -dsimp only [Vm.G, List.lookup, Nat.reduceAdd, Nat.reduceBEq, Int.reduceBNe, Int.reduceBEq, Nat.reduceLeDiff, q132]
    refine cond_intro (fun hcc => ?_) (fun hcc => ?_)
    · have hlt : i < l.length := by have := of_decide_eq_true hcc; omega
      have hw : IntKind.i64.wrap ((i : Int) + 1) = ((i + 1 : Nat) : Int) := by rw [wrap_i64 (by omega) (by omega)]; simp
      have est : ownL (l.take (i + 1)) = ownL (l.take i) ++ [⟨l[i].node, l[i].amt, 0, 0⟩] := by
        unfold ownL
        rw [List.take_succ_eq_append_getElem hlt, List.map_append]; rfl
      have hol : (ownL (l.take i)).length ≤ i := by unfold ownL; rw [List.length_map, List.length_take]; omega
      simp -dsimp only [Vm.G, List.lookup, Nat.reduceAdd, Nat.reduceBEq, Int.reduceBNe, Int.reduceBEq, Nat.reduceLeDiff, q132]
      refine idx_map lnAv l i hlt ?_
      generalize l[i] = x at est
      simp only [lnAv, lnCells]
      simp -dsimp only [Vm.G, List.lookup, Nat.reduceAdd, Nat.reduceBEq, Int.reduceBNe, Int.reduceBEq, Nat.reduceLeDiff, q132, AV.cells]
      refine bs_intro zr62 (by decide) (by decide) rfl rfl (by simp [solid, AV.cells]) ?_
      simp -dsimp only [Vm.G, List.lookup, Nat.reduceAdd, Nat.reduceBEq, Int.reduceBNe, Int.reduceBEq, Nat.reduceLeDiff, q132]
      refine app_sl Tryz.underlying55 (by simp [AV.cells]) (by simp only [List.length_map, List.length_cons, List.length_nil]; omega) ?_
      simp -dsimp only [Vm.G, List.lookup, Nat.reduceAdd, Nat.reduceBEq, Int.reduceBNe, Int.reduceBEq, Nat.reduceLeDiff, q132]
      refine kept_intro ⟨l.length - (i + 1), by omega, _, le_mk [(3, .own true 62 4 ((ownL (l.take (i + 1))).map dlAv)), (6, .sl 4 (l.map lnAv)), (7, .v (.int .i64 l.length)), (8, .v (.int .i64 (i + 1 : Nat)))] ?_, i + 1, by omega, rfl, rfl⟩
      simp only [List.forall_mem_cons, List.not_mem_nil, false_imp_iff, implies_true, and_true, hw, est, List.map_append, List.map_cons, List.map_nil, dlAv, dlCells]
      try simp -dsimp only [Vm.G, List.lookup, Nat.reduceAdd, Nat.reduceBEq, Int.reduceBNe, Int.reduceBEq, Nat.reduceLeDiff, q132, hw, est, List.map_append, List.map_cons, List.map_nil, dlAv, dlCells]
      repeat' first | exact Fg.refl _ | exact Fg.nil _ _ _ (by decide) | refine And.intro ?_ ?_
    · have hge : ¬ i < l.length := by have := of_decide_eq_false hcc; omega
      simp -dsimp only [Vm.G, List.lookup, Nat.reduceAdd, Nat.reduceBEq, Int.reduceBNe, Int.reduceBEq, Nat.reduceLeDiff, q132]
      rw [List.take_of_length_le (by omega)]
      exact hq
/-- Lines' nodes, charged. -/
def chargeL (year : Int) : List Dl → Fun → Bool → Fun × Bool × Int
  | [], f, w => (f, w, 0)
  | x :: r, f, w => if (chargeOf f year x.node ⟨x.orig, 0, 0⟩).2.2 ≠ 0 then ((chargeOf f year x.node ⟨x.orig, 0, 0⟩).1, false, (chargeOf f year x.node ⟨x.orig, 0, 0⟩).2.2)
    else chargeL year r (chargeOf f year x.node ⟨x.orig, 0, 0⟩).1 (w || (chargeOf f year x.node ⟨x.orig, 0, 0⟩).2.1)
theorem chargeL_cons (year : Int) (x : Dl) (r : List Dl) (f : Fun) (w : Bool) : chargeL year (x :: r) f w = if (chargeOf f year x.node ⟨x.orig, 0, 0⟩).2.2 ≠ 0 then ((chargeOf f year x.node ⟨x.orig, 0, 0⟩).1, false, (chargeOf f year x.node ⟨x.orig, 0, 0⟩).2.2)
    else chargeL year r (chargeOf f year x.node ⟨x.orig, 0, 0⟩).1 (w || (chargeOf f year x.node ⟨x.orig, 0, 0⟩).2.1) := rfl
attribute [local irreducible] chargeOf chargeL docsPut
def chargeLSpec : Vm.Spec := fun args h Q => ∃ (V : VId) (f : Fun) (year : Int) (l : List Dl), l.length ≤ 1073741824 ∧ args = [.agg [.ptr V.iv 0, .v (.int .i64 year)], .sl 4 (l.map dlAv)] ∧ isView h V f ∧
  ∀ h', isView h' V (chargeL year l f false).1 → Same h h' [V.ic] → Q (.tup [.v (.bool (chargeL year l f false).2.1), .v (.int .i64 (chargeL year l f false).2.2)]) h'
set_option maxHeartbeats 1000000 in
theorem does_chargeL : Does Tryz.prog 133 chargeLSpec := by
  refine does_of_awp (good_cons does_charge good_nil) Tryz.func133 rfl (by decide +kernel) (by decide +kernel) ?_
  rintro args h Q ⟨V, f, year, l, hl, rfl, hV, hq⟩
  refine ⟨by simp [Tryz.f133], ?_⟩
  rw [awpFunc_some (by rfl)]
  simp -dsimp only [Vm.G, List.lookup, Nat.reduceAdd, Nat.reduceBEq, Int.reduceBNe, Int.reduceBEq, Nat.reduceLeDiff, q133]
  refine awp_loop (fun m s h' => ∃ (i : Nat) (g : Fun) (w : Bool), i + m = l.length ∧ isView h' V g ∧ Same h h' [V.ic] ∧ chargeL year (l.drop i) g w = chargeL year l f false ∧ s = mk [(2, .box [.ptr V.iv 0, .v (.int .i64 year)]), (6, .v (.bool w)), (11, .sl 4 (l.map dlAv)), (12, .v (.int .i64 l.length)), (13, .v (.int .i64 (i : Nat)))])
    l.length _ (le_mk _ ?_) ⟨0, f, false, by omega, hV, .refl _ _, rfl, rfl⟩ ?_
  · simp only [List.forall_mem_cons, List.not_mem_nil, false_imp_iff, implies_true, and_true]
    try simp -dsimp only [Vm.G, List.lookup, Nat.reduceAdd, Nat.reduceBEq, Int.reduceBNe, Int.reduceBEq, Nat.reduceLeDiff, q133]
    repeat' first | exact Fg.refl _ | exact Fg.nil _ _ _ (by decide) | refine And.intro ?_ ?_
  · clear hV
    rintro m s h' ⟨i, g, w, hi, hV, hsm, hp, rfl⟩
    simp -dsimp only [Vm.G, List.lookup, Nat.reduceAdd, Nat.reduceBEq, Int.reduceBNe, Int.reduceBEq, Nat.reduceLeDiff, q133]
    refine cond_intro (fun hcc => ?_) (fun hcc => ?_)
    · have hlt : i < l.length := by have := of_decide_eq_true hcc; omega
      have hw : IntKind.i64.wrap ((i : Int) + 1) = ((i + 1 : Nat) : Int) := by rw [wrap_i64 (by omega) (by omega)]; simp
      rw [List.drop_eq_getElem_cons hlt] at hp
      simp -dsimp only [Vm.G, List.lookup, Nat.reduceAdd, Nat.reduceBEq, Int.reduceBNe, Int.reduceBEq, Nat.reduceLeDiff, q133]
      refine idx_map dlAv l i hlt ?_
      generalize l[i] = x at hp
      simp only [dlAv, dlCells]
      simp -dsimp only [Vm.G, List.lookup, Nat.reduceAdd, Nat.reduceBEq, Int.reduceBNe, Int.reduceBEq, Nat.reduceLeDiff, q133, AV.cells]
      refine call_one (S := chargeSpec) rfl _ GaL.rfl ⟨V, g, year, x.node, ⟨x.orig, 0, 0⟩, rfl, hV, fun h2 g1 g2 => ?_⟩
      rw [chargeL_cons] at hp
      generalize chargeOf g year x.node ⟨x.orig, 0, 0⟩ = q at hp g1 ⊢
      obtain ⟨qf, qw, qe⟩ := q
      simp only at hp g1 ⊢
      simp -dsimp only [Vm.G, List.lookup, Nat.reduceAdd, Nat.reduceBEq, Int.reduceBNe, Int.reduceBEq, Nat.reduceLeDiff, q133]
      cases c1 : (qe != 0)
      · have d1 : ¬ qe ≠ 0 := by simpa using c1
        rw [if_neg d1] at hp
        cases w
        · simp -dsimp only [Vm.G, List.lookup, Nat.reduceAdd, Nat.reduceBEq, Int.reduceBNe, Int.reduceBEq, Nat.reduceLeDiff, q133]
          refine kept_intro ⟨l.length - (i + 1), by omega, _, le_mk [(2, .box [.ptr V.iv 0, .v (.int .i64 year)]), (6, .v (.bool qw)), (11, .sl 4 (l.map dlAv)), (12, .v (.int .i64 l.length)), (13, .v (.int .i64 (i + 1 : Nat)))] ?_, i + 1, qf, qw, by omega, g1, hsm.trans g2, by simpa using hp, rfl⟩
          simp only [List.forall_mem_cons, List.not_mem_nil, false_imp_iff, implies_true, and_true, hw]
          try simp -dsimp only [Vm.G, List.lookup, Nat.reduceAdd, Nat.reduceBEq, Int.reduceBNe, Int.reduceBEq, Nat.reduceLeDiff, q133, hw]
          repeat' first | exact Fg.refl _ | exact Fg.nil _ _ _ (by decide) | refine And.intro ?_ ?_
        · simp -dsimp only [Vm.G, List.lookup, Nat.reduceAdd, Nat.reduceBEq, Int.reduceBNe, Int.reduceBEq, Nat.reduceLeDiff, q133]
          refine kept_intro ⟨l.length - (i + 1), by omega, _, le_mk [(2, .box [.ptr V.iv 0, .v (.int .i64 year)]), (6, .v (.bool true)), (11, .sl 4 (l.map dlAv)), (12, .v (.int .i64 l.length)), (13, .v (.int .i64 (i + 1 : Nat)))] ?_, i + 1, qf, true, by omega, g1, hsm.trans g2, by simpa using hp, rfl⟩
          simp only [List.forall_mem_cons, List.not_mem_nil, false_imp_iff, implies_true, and_true, hw]
          try simp -dsimp only [Vm.G, List.lookup, Nat.reduceAdd, Nat.reduceBEq, Int.reduceBNe, Int.reduceBEq, Nat.reduceLeDiff, q133, hw]
          repeat' first | exact Fg.refl _ | exact Fg.nil _ _ _ (by decide) | refine And.intro ?_ ?_
      · have d1 : qe ≠ 0 := by simpa using c1
        rw [if_pos d1] at hp
        rw [← hp] at hq
        simp -dsimp only [Vm.G, List.lookup, Nat.reduceAdd, Nat.reduceBEq, Int.reduceBNe, Int.reduceBEq, Nat.reduceLeDiff, q133]
        exact hq h2 g1 (hsm.trans g2)
    · have hge : ¬ i < l.length := by have := of_decide_eq_false hcc; omega
      rw [List.drop_of_length_le (by omega)] at hp
      have hp : (g, w, (0 : Int)) = chargeL year l f false := by rw [← hp]; simp only [chargeL]
      rw [← hp] at hq
      simp -dsimp only [Vm.G, List.lookup, Nat.reduceAdd, Nat.reduceBEq, Int.reduceBNe, Int.reduceBEq, Nat.reduceLeDiff, q133]
      exact hq h' hV hsm
/-- A pre-encumbrance, made. -/
def preNew (f : Fun) (year : Int) (l : List Ln) : Fun × Int × Bool × Int :=
  if checkY f year ≠ 0 then (f, 0, false, checkY f year)
  else if preCheck l ≠ 0 then (f, 0, false, preCheck l)
  else if (chargeL year (ownL l) f false).2.2 ≠ 0 then ((chargeL year (ownL l) f false).1, 0, false, (chargeL year (ownL l) f false).2.2)
  else ((docsPut (chargeL year (ownL l) f false).1 ⟨0, 1, year, 0, 0⟩ (ownL l)).1, (docsPut (chargeL year (ownL l) f false).1 ⟨0, 1, year, 0, 0⟩ (ownL l)).2.1,
    (chargeL year (ownL l) f false).2.1 && ((docsPut (chargeL year (ownL l) f false).1 ⟨0, 1, year, 0, 0⟩ (ownL l)).2.2 == 0), (docsPut (chargeL year (ownL l) f false).1 ⟨0, 1, year, 0, 0⟩ (ownL l)).2.2)
def Ln.ok (x : Ln) : Prop := I64 x.fund ∧ I64 x.obj ∧ I64 x.node ∧ I64 x.amt
theorem ownL_ok {l : List Ln} (h : ∀ x ∈ l, x.ok) : ∀ x ∈ ownL l, x.ok := fun x hx => by
  obtain ⟨y, hy, rfl⟩ := List.mem_map.1 hx
  obtain ⟨-, -, h3, h4⟩ := h y hy
  exact ⟨h3, h4, by show I64 0; unfold I64; omega, by show I64 0; unfold I64; omega⟩
def preNewSpec : Vm.Spec := fun args h Q => ∃ (V : VId) (f : Fun) (year : Int) (l : List Ln), I64 year ∧ l.length ≤ 1073741824 ∧ (∀ x ∈ l, x.ok) ∧ args = [.ptr V.iv 0, .v (.int .i64 year), .sl 4 (l.map lnAv)] ∧ isView h V f ∧
  ∀ h', isView h' V (preNew f year l).1 → Same h h' [V.ic] → Q (.tup [.v (.int .i64 (preNew f year l).2.1), .v (.bool (preNew f year l).2.2.1), .v (.int .i64 (preNew f year l).2.2.2)]) h'
set_option maxHeartbeats 1000000 in
theorem does_preNew : Does Tryz.prog 57 preNewSpec := by
  refine does_of_awp (good_cons does_yCheck (good_cons does_preCheck (good_cons does_preLines (good_cons does_chargeL (good_cons does_docsPut good_nil))))) Tryz.func57 rfl (by decide +kernel) (by decide +kernel) ?_
  rintro args h Q ⟨V, f, year, l, hy, hl, hok, rfl, hV, hq⟩
  refine ⟨by simp [Tryz.f57], ?_⟩
  rw [awpFunc_some (by rfl)]
  unfold preNew at hq
  simp -dsimp only [Vm.G, List.lookup, Nat.reduceAdd, Nat.reduceBEq, Int.reduceBNe, Int.reduceBEq, Nat.reduceLeDiff, q57]
  refine call_one (S := yCheckSpec) rfl _ GaL.rfl ⟨V, f, year, rfl, hV, ?_⟩
  generalize checkY f year = e at hq ⊢
  simp -dsimp only [Vm.G, List.lookup, Nat.reduceAdd, Nat.reduceBEq, Int.reduceBNe, Int.reduceBEq, Nat.reduceLeDiff, q57]
  cases c1 : (e != 0)
  · have d1 : ¬ e ≠ 0 := by simpa using c1
    simp only [if_neg d1] at hq
    simp -dsimp only [Vm.G, List.lookup, Nat.reduceAdd, Nat.reduceBEq, Int.reduceBNe, Int.reduceBEq, Nat.reduceLeDiff, q57]
    refine call_one (S := preCheckSpec) rfl _ GaL.rfl ⟨l, by omega, rfl, ?_⟩
    generalize preCheck l = e2 at hq ⊢
    simp -dsimp only [Vm.G, List.lookup, Nat.reduceAdd, Nat.reduceBEq, Int.reduceBNe, Int.reduceBEq, Nat.reduceLeDiff, q57]
    cases c2 : (e2 != 0)
    · have d2 : ¬ e2 ≠ 0 := by simpa using c2
      simp only [if_neg d2] at hq
      simp -dsimp only [Vm.G, List.lookup, Nat.reduceAdd, Nat.reduceBEq, Int.reduceBNe, Int.reduceBEq, Nat.reduceLeDiff, q57]
      refine call_one (S := linesSpec) rfl _ GaL.rfl ⟨l, hl, rfl, ?_⟩
      have hol : (ownL l).length = l.length := by unfold ownL; rw [List.length_map]
      have hook := ownL_ok hok
      simp -dsimp only [Vm.G, List.lookup, Nat.reduceAdd, Nat.reduceBEq, Int.reduceBNe, Int.reduceBEq, Nat.reduceLeDiff, q57]
      refine call_one (S := chargeLSpec) rfl _ GaL.rfl ⟨V, f, year, ownL l, by omega, rfl, hV, fun h1 g1 g2 => ?_⟩
      obtain ⟨q, hqe⟩ : ∃ q, q = chargeL year (ownL l) f false := ⟨_, rfl⟩
      rw [← hqe] at hq g1 ⊢
      clear hqe
      obtain ⟨qf, qw, qe⟩ := q
      simp only at hq g1 ⊢
      simp -dsimp only [Vm.G, List.lookup, Nat.reduceAdd, Nat.reduceBEq, Int.reduceBNe, Int.reduceBEq, Nat.reduceLeDiff, q57]
      cases c3 : (qe != 0)
      · have d3 : ¬ qe ≠ 0 := by simpa using c3
        simp only [if_neg d3] at hq
        have z0 : I64 0 := by unfold I64; omega
        have z1 : I64 1 := by unfold I64; omega
        simp -dsimp only [Vm.G, List.lookup, Nat.reduceAdd, Nat.reduceBEq, Int.reduceBNe, Int.reduceBEq, Nat.reduceLeDiff, q57]
        refine call_one (S := docsPutSpec) rfl _ GaL.rfl ⟨V, qf, ⟨0, 1, year, 0, 0⟩, ownL l, ⟨z0, z1, hy, z0, z0⟩, hook, rfl, g1, fun h2 g3 g4 => ?_⟩
        obtain ⟨r, hre⟩ : ∃ r, r = docsPut qf ⟨0, 1, year, 0, 0⟩ (ownL l) := ⟨_, rfl⟩
        rw [← hre] at hq g3 ⊢
        clear hre
        obtain ⟨rf, ri, re⟩ := r
        simp only at hq g3 ⊢
        have hq' := hq h2 g3 (g2.trans g4)
        cases qw
        · simp -dsimp only [Vm.G, List.lookup, Nat.reduceAdd, Nat.reduceBEq, Int.reduceBNe, Int.reduceBEq, Nat.reduceLeDiff, q57]
          exact hq'
        · simp -dsimp only [Vm.G, List.lookup, Nat.reduceAdd, Nat.reduceBEq, Int.reduceBNe, Int.reduceBEq, Nat.reduceLeDiff, q57]
          exact hq'
      · have d3 : qe ≠ 0 := by simpa using c3
        simp only [if_pos d3] at hq
        simp -dsimp only [Vm.G, List.lookup, Nat.reduceAdd, Nat.reduceBEq, Int.reduceBNe, Int.reduceBEq, Nat.reduceLeDiff, q57]
        exact hq h1 g1 g2
    · have d2 : e2 ≠ 0 := by simpa using c2
      simp only [if_pos d2] at hq
      simp -dsimp only [Vm.G, List.lookup, Nat.reduceAdd, Nat.reduceBEq, Int.reduceBNe, Int.reduceBEq, Nat.reduceLeDiff, q57]
      exact hq h hV (.refl _ _)
  · have d1 : e ≠ 0 := by simpa using c1
    simp only [if_pos d1] at hq
    simp -dsimp only [Vm.G, List.lookup, Nat.reduceAdd, Nat.reduceBEq, Int.reduceBNe, Int.reduceBEq, Nat.reduceLeDiff, q57]
    exact hq h hV (.refl _ _)
end Go.Proofs.Lx
/- Documents: docs.Get, Set, All, Last, Open, Right. -/
set_option linter.unusedSimpArgs false
set_option linter.unusedVariables false
namespace Go.Proofs.Lx
open Go.Vm
attribute [local irreducible] awpArr awpBin awpMake awpAppend awpCvX awpStrOf awpBinX awpSlice awpBS awpStore awpAlloc awpCopy awpIndex awpDraw awpIdxX awpFa awpField awpLookup awpUpdate awpDelete awpClear awpRange awpNext awpEntry awpBuild awpClearS awpIdxL awpTree appB awpIdxO eltA treeA
def Dl.zero : Dl := ⟨0, 0, 0, 0⟩
def Dc.zero : Dc := ⟨0, 0, 0, 0, 0⟩
/-- A record's document, its line. -/
def dcOf (l : List Int) : Dc := ⟨l.getD 0 0, l.getD 1 0, l.getD 2 0, l.getD 3 0, l.getD 4 0⟩
def dlOf (l : List Int) : Dl := ⟨l.getD 2 0, l.getD 3 0, l.getD 4 0, l.getD 5 0⟩
def docOf (key val : List UInt8) : Option Dc := (numsPair 68 1 4 key val).map dcOf
def lineOf (key val : List UInt8) : Option Dl := (numsPair 76 2 4 key val).map dlOf
def docOfSpec : Vm.Spec := fun args h Q => ∃ key val : List UInt8, key.length ≤ 4611686018427387904 ∧ val.length ≤ 4611686018427387904 ∧ args = [.agg [.sl 1 (key.map encB), .sl 1 (val.map encB)]] ∧
  (∀ d, docOf key val = some d → Q (.tup [.agg (dcCells d), .v (.bool true)]) h) ∧ (docOf key val = none → Q (.tup [.agg (dcCells .zero), .v (.bool false)]) h)
set_option maxRecDepth 20000 in
set_option maxHeartbeats 1000000 in
theorem does_docOf : Does Tryz.prog 112 docOfSpec := by
  refine does_of_awp (good_cons does_documents (good_cons does_nums good_nil)) Tryz.func112 rfl (by decide +kernel) (by decide +kernel) ?_
  rintro args h Q ⟨key, val, hk, hv, rfl, hq1, hq2⟩
  refine ⟨by simp [Tryz.f112], ?_⟩
  rw [awpFunc_some (by rfl)]
  unfold docOf at hq1 hq2
  simp only [dcCells, Dc.zero] at hq2
  simp -dsimp only [Vm.G, List.lookup, Nat.reduceAdd, Nat.reduceBEq, Int.reduceBNe, Int.reduceBEq, Nat.reduceLeDiff, q112]
  refine draw_cont [1] (.take 1 (.alt 0 (.alt 2 (.take 3 (.take 4 (.take 5 (.alt 6 (.alt 7 (.done) .stop) .stop)))) .stop) .stop)) (fun s h' => h' = h ∧ s 2 = .box (dcCells .zero) ∧ ((∃ l, numsPair 68 1 4 key val = some l ∧ s 4 = .own true 3 1 (l.map encI) ∧ s 5 = .v (.bool true)) ∨ (numsPair 68 1 4 key val = none ∧ s 5 = .v (.bool false)))) (by kernel_rfl) (by kernel_rfl) (by kernel_rfl) (by decide) ?_ ?_
  · simp -dsimp only [Vm.G, List.lookup, Nat.reduceAdd, Nat.reduceBEq, Int.reduceBNe, Int.reduceBEq, Nat.reduceLeDiff, q112]
    refine call_one (S := tabSpec 68 1 4) rfl _ GaL.rfl ⟨rfl, ?_⟩
    simp -dsimp only [Vm.G, List.lookup, Nat.reduceAdd, Nat.reduceBEq, Int.reduceBNe, Int.reduceBEq, Nat.reduceLeDiff, q112]
    refine call_one (S := numsSpec) rfl _ GaL.rfl ⟨68, 1, 4, key, val, by decide, hk, hv, rfl, fun l hl => ?_, fun hl => ?_, fun hl l => ?_⟩
    · simp -dsimp only [Vm.G, List.lookup, Nat.reduceAdd, Nat.reduceBEq, Int.reduceBNe, Int.reduceBEq, Nat.reduceLeDiff, q112]
      exact ⟨rfl, .inl ⟨l, hl, rfl, trivial⟩⟩
    · simp -dsimp only [Vm.G, List.lookup, Nat.reduceAdd, Nat.reduceBEq, Int.reduceBNe, Int.reduceBEq, Nat.reduceLeDiff, q112]
      exact ⟨rfl, .inr ⟨hl, trivial⟩⟩
    · simp -dsimp only [Vm.G, List.lookup, Nat.reduceAdd, Nat.reduceBEq, Int.reduceBNe, Int.reduceBEq, Nat.reduceLeDiff, q112]
      exact ⟨rfl, .inr ⟨hl, trivial⟩⟩
  · rintro s h' ⟨rfl, hs2, ⟨l, hl, hs4, hs5⟩ | ⟨hl, hs5⟩⟩
    · rw [hl] at hq1
      have hlen := numsPair_length hl
      have hq1' := hq1 (dcOf l) rfl
      clear hq1 hq2 hl
      simp only [dcCells, Dc.zero] at hs2
      match l, hlen with
      | [a0, a1, a2, a3, a4], _ =>
      simp -dsimp only [Vm.G, List.lookup, Nat.reduceAdd, Nat.reduceBEq, Int.reduceBNe, Int.reduceBEq, Nat.reduceLeDiff, q112, hs5]
      refine draw_cont [4] (.take 0 (.take 1 (.take 2 (.take 3 (.take 4 (.take 5 (.take 6 (.take 7 (.take 8 (.take 9 (.take 10 (.take 11 (.take 12 (.take 13 (.take 14 (.alt 15 (.alt 16 (.alt 17 (.done) .stop) .stop) .stop)))))))))))))))) (fun s h'' => h'' = h' ∧ s 2 = .box [.v (.int .i64 a0), .v (.int .i64 a1), .v (.int .i64 a2), .v (.int .i64 a3), .v (.int .i64 a4)] ∧ s 3 = .v (.bool true)) (by kernel_rfl) (by kernel_rfl) (by kernel_rfl) (by decide) ?_ ?_
      · simp -dsimp only [Vm.G, List.lookup, Nat.reduceAdd, Nat.reduceBEq, Int.reduceBNe, Int.reduceBEq, Nat.reduceLeDiff, q112, idx_lit, idxE_some, Int.reduceToNat, Int.reduceLE, decide_true, eq_self, hs2, hs4, hs5, encI]
        repeat' first | rfl | exact True.intro | refine And.intro ?_ ?_
      · rintro s2 h2 ⟨rfl, g2, g3⟩
        simp -dsimp only [Vm.G, List.lookup, Nat.reduceAdd, Nat.reduceBEq, Int.reduceBNe, Int.reduceBEq, Nat.reduceLeDiff, q112, g2, g3]
        exact hq1'
    · rw [hl] at hq2
      simp only [dcCells, Dc.zero] at hs2
      simp -dsimp only [Vm.G, List.lookup, Nat.reduceAdd, Nat.reduceBEq, Int.reduceBNe, Int.reduceBEq, Nat.reduceLeDiff, q112, hs2, hs5]
      exact hq2 rfl
def lineOfSpec : Vm.Spec := fun args h Q => ∃ key val : List UInt8, key.length ≤ 4611686018427387904 ∧ val.length ≤ 4611686018427387904 ∧ args = [.agg [.sl 1 (key.map encB), .sl 1 (val.map encB)]] ∧
  (∀ d, lineOf key val = some d → Q (.tup [.agg (dlCells d), .v (.bool true)]) h) ∧ (lineOf key val = none → Q (.tup [.agg (dlCells .zero), .v (.bool false)]) h)
set_option maxRecDepth 20000 in
set_option maxHeartbeats 1000000 in
theorem does_lineOf : Does Tryz.prog 185 lineOfSpec := by
  refine does_of_awp (good_cons does_docLines (good_cons does_nums good_nil)) Tryz.func185 rfl (by decide +kernel) (by decide +kernel) ?_
  rintro args h Q ⟨key, val, hk, hv, rfl, hq1, hq2⟩
  refine ⟨by simp [Tryz.f185], ?_⟩
  rw [awpFunc_some (by rfl)]
  unfold lineOf at hq1 hq2
  simp only [dlCells, Dl.zero] at hq2
  simp -dsimp only [Vm.G, List.lookup, Nat.reduceAdd, Nat.reduceBEq, Int.reduceBNe, Int.reduceBEq, Nat.reduceLeDiff, q185]
  refine draw_cont [1] (.take 1 (.alt 0 (.alt 2 (.take 3 (.take 4 (.take 5 (.alt 6 (.alt 7 (.done) .stop) .stop)))) .stop) .stop)) (fun s h' => h' = h ∧ s 2 = .box (dlCells .zero) ∧ ((∃ l, numsPair 76 2 4 key val = some l ∧ s 4 = .own true 3 1 (l.map encI) ∧ s 5 = .v (.bool true)) ∨ (numsPair 76 2 4 key val = none ∧ s 5 = .v (.bool false)))) (by kernel_rfl) (by kernel_rfl) (by kernel_rfl) (by decide) ?_ ?_
  · simp -dsimp only [Vm.G, List.lookup, Nat.reduceAdd, Nat.reduceBEq, Int.reduceBNe, Int.reduceBEq, Nat.reduceLeDiff, q185]
    refine call_one (S := tabSpec 76 2 4) rfl _ GaL.rfl ⟨rfl, ?_⟩
    simp -dsimp only [Vm.G, List.lookup, Nat.reduceAdd, Nat.reduceBEq, Int.reduceBNe, Int.reduceBEq, Nat.reduceLeDiff, q185]
    refine call_one (S := numsSpec) rfl _ GaL.rfl ⟨76, 2, 4, key, val, by decide, hk, hv, rfl, fun l hl => ?_, fun hl => ?_, fun hl l => ?_⟩
    · simp -dsimp only [Vm.G, List.lookup, Nat.reduceAdd, Nat.reduceBEq, Int.reduceBNe, Int.reduceBEq, Nat.reduceLeDiff, q185]
      exact ⟨rfl, .inl ⟨l, hl, rfl, trivial⟩⟩
    · simp -dsimp only [Vm.G, List.lookup, Nat.reduceAdd, Nat.reduceBEq, Int.reduceBNe, Int.reduceBEq, Nat.reduceLeDiff, q185]
      exact ⟨rfl, .inr ⟨hl, trivial⟩⟩
    · simp -dsimp only [Vm.G, List.lookup, Nat.reduceAdd, Nat.reduceBEq, Int.reduceBNe, Int.reduceBEq, Nat.reduceLeDiff, q185]
      exact ⟨rfl, .inr ⟨hl, trivial⟩⟩
  · rintro s h' ⟨rfl, hs2, ⟨l, hl, hs4, hs5⟩ | ⟨hl, hs5⟩⟩
    · rw [hl] at hq1
      have hlen := numsPair_length hl
      have hq1' := hq1 (dlOf l) rfl
      clear hq1 hq2 hl
      simp only [dlCells, Dl.zero] at hs2
      match l, hlen with
      | [a0, a1, a2, a3, a4, a5], _ =>
      simp -dsimp only [Vm.G, List.lookup, Nat.reduceAdd, Nat.reduceBEq, Int.reduceBNe, Int.reduceBEq, Nat.reduceLeDiff, q185, hs5]
      refine draw_cont [4] (.take 0 (.take 1 (.take 2 (.take 3 (.take 4 (.take 5 (.take 6 (.take 7 (.take 8 (.take 9 (.take 10 (.take 11 (.alt 12 (.alt 13 (.alt 14 (.done) .stop) .stop) .stop))))))))))))) (fun s h'' => h'' = h' ∧ s 2 = .box [.v (.int .i64 a2), .v (.int .i64 a3), .v (.int .i64 a4), .v (.int .i64 a5)] ∧ s 3 = .v (.bool true)) (by kernel_rfl) (by kernel_rfl) (by kernel_rfl) (by decide) ?_ ?_
      · simp -dsimp only [Vm.G, List.lookup, Nat.reduceAdd, Nat.reduceBEq, Int.reduceBNe, Int.reduceBEq, Nat.reduceLeDiff, q185, idx_lit, idxE_some, Int.reduceToNat, Int.reduceLE, decide_true, eq_self, hs2, hs4, hs5, encI]
        repeat' first | rfl | exact True.intro | refine And.intro ?_ ?_
      · rintro s2 h2 ⟨rfl, g2, g3⟩
        simp -dsimp only [Vm.G, List.lookup, Nat.reduceAdd, Nat.reduceBEq, Int.reduceBNe, Int.reduceBEq, Nat.reduceLeDiff, q185, g2, g3]
        exact hq1'
    · rw [hl] at hq2
      simp only [dlCells, Dl.zero] at hs2
      simp -dsimp only [Vm.G, List.lookup, Nat.reduceAdd, Nat.reduceBEq, Int.reduceBNe, Int.reduceBEq, Nat.reduceLeDiff, q185, hs2, hs5]
      exact hq2 rfl
def fetchSpec : Vm.Spec := fun args h Q => ∃ (V : VId) (f : Fun) (tag : UInt8) (l : List Int), l.length ≤ 15 ∧ args = [.agg [.ptr V.iv 0], .v (.int .u8 tag.toNat), .sl 1 (l.map encI)] ∧ isView h V f ∧
  (∀ v, f (keyOf tag l) = some v → Q (.tup [.agg [.sl 1 ((keyOf tag l).map encB), .sl 1 (v.map encB)], .v (.bool true)]) h) ∧ (f (keyOf tag l) = none → Q (.tup [.agg [.sl 1 ((keyOf tag l).map encB), .sl 1 []], .v (.bool false)]) h)
theorem does_fetch : Does Tryz.prog 184 fetchSpec := by
  refine does_of_awp (good_cons does_key (good_cons does_vgetW good_nil)) Tryz.func184 rfl (by decide +kernel) (by decide +kernel) ?_
  rintro args h Q ⟨V, f, tag, l, hl, rfl, hV, hq1, hq2⟩
  refine ⟨by simp [Tryz.f184], ?_⟩
  rw [awpFunc_some (by rfl)]
  simp -dsimp only [Vm.G, List.lookup, Nat.reduceAdd, Nat.reduceBEq, Int.reduceBNe, Int.reduceBEq, Nat.reduceLeDiff, q184]
  refine call_one (S := keySpec) rfl _ GaL.rfl ⟨tag, l, by omega, rfl, ?_⟩
  simp -dsimp only [Vm.G, List.lookup, Nat.reduceAdd, Nat.reduceBEq, Int.reduceBNe, Int.reduceBEq, Nat.reduceLeDiff, q184]
  refine call_one (S := vgetWSpec) rfl _ GaL.rfl ⟨V, f, keyOf tag l, rfl, hV, fun v hf => ?_, fun hf => ?_⟩
  · simp -dsimp only [Vm.G, List.lookup, Nat.reduceAdd, Nat.reduceBEq, Int.reduceBNe, Int.reduceBEq, Nat.reduceLeDiff, q184]
    exact hq1 v hf
  · simp -dsimp only [Vm.G, List.lookup, Nat.reduceAdd, Nat.reduceBEq, Int.reduceBNe, Int.reduceBEq, Nat.reduceLeDiff, q184]
    exact hq2 hf
def headOk (id : Int) (d : Dc) : Bool := (d.id == id) && (decide (d.lines ≥ 1) && decide (d.lines ≤ 6))
/-- A document's head, a line of it. -/
def docHead (f : Fun) (id : Int) : Option Dc := (f (dcK id)).bind fun v => (docOf (dcK id) v).bind fun d => if headOk id d then some d else none
def lineAt (f : Fun) (id i : Int) : Option Dl := (f (dlK id i)).bind fun v => lineOf (dlK id i) v
def docSpec : Vm.Spec := fun args h Q => ∃ (V : VId) (f : Fun) (id : Int), args = [.agg [.ptr V.iv 0], .v (.int .i64 id)] ∧ isView h V f ∧
  (∀ d, docHead f id = some d → Q (.tup [.agg (dcCells d), .v (.bool true)]) h) ∧ (docHead f id = none → ∀ d : Dc, Q (.tup [.agg (dcCells d), .v (.bool false)]) h)
set_option maxRecDepth 20000 in
set_option maxHeartbeats 1000000 in
theorem does_doc : Does Tryz.prog 109 docSpec := by
  refine does_of_awp (good_cons does_fetch (good_cons does_docOf good_nil)) Tryz.func109 rfl (by decide +kernel) (by decide +kernel) ?_
  rintro args h Q ⟨V, f, id, rfl, hV, hq1, hq2⟩
  refine ⟨by simp [Tryz.f109], ?_⟩
  rw [awpFunc_some (by rfl)]
  have hk := dcK_length id
  unfold docHead at hq1 hq2
  simp -dsimp only [Vm.G, List.lookup, Nat.reduceAdd, Nat.reduceBEq, Int.reduceBNe, Int.reduceBEq, Nat.reduceLeDiff, q109]
  refine bs_intro zr3 (by decide) (by decide) rfl rfl (by simp [solid, AV.cells]) ?_
  simp -dsimp only [Vm.G, List.lookup, Nat.reduceAdd, Nat.reduceBEq, Int.reduceBNe, Int.reduceBEq, Nat.reduceLeDiff, q109]
  refine call_one (S := fetchSpec) rfl _ GaL.rfl ⟨V, f, 68, [id], by simp, rfl, hV, fun v hf => ?_, fun hf => ?_⟩
  · have hvl := hV.len _ _ hf
    have hf : f (dcK id) = some v := hf
    rw [hf] at hq1 hq2
    simp only [Option.bind_some] at hq1 hq2
    have ek : keyOf 68 [id] = dcK id := rfl
    simp -dsimp only [Vm.G, List.lookup, Nat.reduceAdd, Nat.reduceBEq, Int.reduceBNe, Int.reduceBEq, Nat.reduceLeDiff, q109, ek]
    generalize dcK id = key at hk hq1 hq2
    refine call_one (S := docOfSpec) rfl _ GaL.rfl ⟨key, v, by omega, by omega, rfl, fun d hd => ?_, fun hd => ?_⟩
    · rw [hd] at hq1 hq2
      simp only [Option.bind_some] at hq1 hq2
      simp only [dcCells] at hq1 hq2 ⊢
      simp -dsimp only [Vm.G, List.lookup, Nat.reduceAdd, Nat.reduceBEq, Int.reduceBNe, Int.reduceBEq, Nat.reduceLeDiff, q109]
      refine draw_cont [8] (.take 0 (.take 1 (.take 2 (.take 3 (.take 5 (.alt 4 (.take 6 (.take 7 (.take 8 (.take 9 (.alt 10 (.take 11 (.take 12 (.take 13 (.take 14 (.alt 15 (.take 16 (.take 17 (.alt 18 (.alt 19 (.done) .stop) .stop))) (.alt 18 (.alt 15 (.take 16 (.take 17 (.alt 19 (.done) .stop))) .stop) (.stop))))))) .stop))))) .stop)))))) (fun s h2 => h2 = h ∧ s 4 = .box [.v (.int .i64 d.id), .v (.int .i64 d.kind), .v (.int .i64 d.year), .v (.int .i64 d.frm), .v (.int .i64 d.lines)] ∧ s 5 = .v (.bool (headOk id d))) (by kernel_rfl) (by kernel_rfl) (by kernel_rfl) (by decide) ?_ ?_
      · clear hq1 hq2
        unfold headOk
        have h1 := Bool.eq_false_or_eq_true (d.id == id)
        rcases h1 with c1 | c1
        · have h2 := Bool.eq_false_or_eq_true (decide (d.lines ≥ 1))
          rcases h2 with c2 | c2
          · repeat' first
              | with_reducible exact True.intro
              | simp -dsimp only [Vm.G, List.lookup, Nat.reduceAdd, Nat.reduceBEq, Int.reduceBNe, Int.reduceBEq, Nat.reduceLeDiff, q109, c1, c2, Bool.true_and]
              | refine tree_alt ?_ ?_
              | repeat' first | rfl | exact True.intro | refine And.intro ?_ ?_
          · repeat' first
              | with_reducible exact True.intro
              | simp -dsimp only [Vm.G, List.lookup, Nat.reduceAdd, Nat.reduceBEq, Int.reduceBNe, Int.reduceBEq, Nat.reduceLeDiff, q109, c1, c2, Bool.true_and, Bool.false_and]
              | refine tree_alt ?_ ?_
              | repeat' first | rfl | exact True.intro | refine And.intro ?_ ?_
        · repeat' first
            | with_reducible exact True.intro
            | simp -dsimp only [Vm.G, List.lookup, Nat.reduceAdd, Nat.reduceBEq, Int.reduceBNe, Int.reduceBEq, Nat.reduceLeDiff, q109, c1, Bool.false_and]
            | refine tree_alt ?_ ?_
            | repeat' first | rfl | exact True.intro | refine And.intro ?_ ?_
      · rintro s h2 ⟨rfl, e4, e5⟩
        have hd2 := Bool.eq_false_or_eq_true (headOk id d)
        rcases hd2 with c | c
        · rw [c] at e5
          simp -dsimp only [Vm.G, List.lookup, Nat.reduceAdd, Nat.reduceBEq, Int.reduceBNe, Int.reduceBEq, Nat.reduceLeDiff, q109, e4, e5]
          exact hq1 d (if_pos c)
        · rw [c] at e5
          simp -dsimp only [Vm.G, List.lookup, Nat.reduceAdd, Nat.reduceBEq, Int.reduceBNe, Int.reduceBEq, Nat.reduceLeDiff, q109, e4, e5]
          exact hq2 (if_neg (by rw [c]; decide)) d
    · rw [hd] at hq2
      have hq := hq2 rfl .zero
      simp only [dcCells, Dc.zero] at hq ⊢
      simp -dsimp only [Vm.G, List.lookup, Nat.reduceAdd, Nat.reduceBEq, Int.reduceBNe, Int.reduceBEq, Nat.reduceLeDiff, q109]
      refine draw_cont [8] (.take 0 (.take 1 (.take 2 (.take 3 (.take 5 (.alt 4 (.take 6 (.take 7 (.take 8 (.take 9 (.alt 10 (.take 11 (.take 12 (.take 13 (.take 14 (.alt 15 (.take 16 (.take 17 (.alt 18 (.alt 19 (.done) .stop) .stop))) (.alt 18 (.alt 15 (.take 16 (.take 17 (.alt 19 (.done) .stop))) .stop) (.stop))))))) .stop))))) .stop)))))) (fun s h2 => h2 = h ∧ s 4 = .box [.v (.int .i64 0), .v (.int .i64 0), .v (.int .i64 0), .v (.int .i64 0), .v (.int .i64 0)] ∧ s 5 = .v (.bool false)) (by kernel_rfl) (by kernel_rfl) (by kernel_rfl) (by decide) ?_ ?_
      · clear hq1 hq2 hq
        repeat' first
          | with_reducible exact True.intro
          | simp -dsimp only [Vm.G, List.lookup, Nat.reduceAdd, Nat.reduceBEq, Int.reduceBNe, Int.reduceBEq, Nat.reduceLeDiff, q109]
          | refine tree_alt ?_ ?_
          | repeat' first | rfl | exact True.intro | refine And.intro ?_ ?_
      · rintro s h2 ⟨rfl, e4, e5⟩
        simp -dsimp only [Vm.G, List.lookup, Nat.reduceAdd, Nat.reduceBEq, Int.reduceBNe, Int.reduceBEq, Nat.reduceLeDiff, q109, e4, e5]
        exact hq
  · have hf : f (dcK id) = none := hf
    rw [hf] at hq2
    have hq := hq2 rfl .zero
    simp only [dcCells, Dc.zero] at hq
    simp -dsimp only [Vm.G, List.lookup, Nat.reduceAdd, Nat.reduceBEq, Int.reduceBNe, Int.reduceBEq, Nat.reduceLeDiff, q109]
    exact hq
def dlineSpec : Vm.Spec := fun args h Q => ∃ (V : VId) (f : Fun) (id i : Int), args = [.agg [.ptr V.iv 0], .v (.int .i64 id), .v (.int .i64 i)] ∧ isView h V f ∧
  (∀ d, lineAt f id i = some d → Q (.tup [.agg (dlCells d), .v (.bool true)]) h) ∧ (lineAt f id i = none → Q (.tup [.agg (dlCells .zero), .v (.bool false)]) h)
set_option maxRecDepth 20000 in
theorem does_dline : Does Tryz.prog 110 dlineSpec := by
  refine does_of_awp (good_cons does_fetch (good_cons does_lineOf good_nil)) Tryz.func110 rfl (by decide +kernel) (by decide +kernel) ?_
  rintro args h Q ⟨V, f, id, i, rfl, hV, hq1, hq2⟩
  refine ⟨by simp [Tryz.f110], ?_⟩
  rw [awpFunc_some (by rfl)]
  have hk := dlK_length id i
  unfold lineAt at hq1 hq2
  simp only [dlCells, Dl.zero] at hq2
  simp -dsimp only [Vm.G, List.lookup, Nat.reduceAdd, Nat.reduceBEq, Int.reduceBNe, Int.reduceBEq, Nat.reduceLeDiff, q110]
  refine bs_intro zr3 (by decide) (by decide) rfl rfl (by simp [solid, AV.cells]) ?_
  simp -dsimp only [Vm.G, List.lookup, Nat.reduceAdd, Nat.reduceBEq, Int.reduceBNe, Int.reduceBEq, Nat.reduceLeDiff, q110]
  refine call_one (S := fetchSpec) rfl _ GaL.rfl ⟨V, f, 76, [id, i], by simp, rfl, hV, fun v hf => ?_, fun hf => ?_⟩
  · have hvl := hV.len _ _ hf
    have hf : f (dlK id i) = some v := hf
    rw [hf] at hq1 hq2
    simp only [Option.bind_some] at hq1 hq2
    have ek : keyOf 76 [id, i] = dlK id i := rfl
    simp -dsimp only [Vm.G, List.lookup, Nat.reduceAdd, Nat.reduceBEq, Int.reduceBNe, Int.reduceBEq, Nat.reduceLeDiff, q110, ek]
    generalize dlK id i = key at hk hq1 hq2
    refine call_one (S := lineOfSpec) rfl _ GaL.rfl ⟨key, v, by omega, by omega, rfl, fun d hd => ?_, fun hd => ?_⟩
    · have hq := hq1 d hd
      simp only [dlCells] at hq ⊢
      simp -dsimp only [Vm.G, List.lookup, Nat.reduceAdd, Nat.reduceBEq, Int.reduceBNe, Int.reduceBEq, Nat.reduceLeDiff, q110]
      exact hq
    · have hq := hq2 hd
      simp only [dlCells, Dl.zero]
      simp -dsimp only [Vm.G, List.lookup, Nat.reduceAdd, Nat.reduceBEq, Int.reduceBNe, Int.reduceBEq, Nat.reduceLeDiff, q110]
      exact hq
  · have hf : f (dlK id i) = none := hf
    rw [hf] at hq2
    simp -dsimp only [Vm.G, List.lookup, Nat.reduceAdd, Nat.reduceBEq, Int.reduceBNe, Int.reduceBEq, Nat.reduceLeDiff, q110]
    exact hq2 rfl
/-- A document's lines, so many. -/
def linesAt (f : Fun) (id : Int) : Nat → Option (List Dl)
  | 0 => some []
  | n + 1 => (linesAt f id n).bind fun l => (lineAt f id n).map fun x => l ++ [x]
theorem linesAt_length {f : Fun} {id : Int} : ∀ {n : Nat} {l : List Dl}, linesAt f id n = some l → l.length = n
  | 0, l, h => by cases h; rfl
  | n + 1, l, h => by
    unfold linesAt at h
    cases h1 : linesAt f id n with
    | none => rw [h1] at h; cases h
    | some l1 =>
      rw [h1] at h
      cases h2 : lineAt f id n with
      | none => rw [Option.bind_some, h2] at h; cases h
      | some x =>
        rw [Option.bind_some, h2] at h
        cases h
        simp [linesAt_length h1]
theorem linesAt_none {f : Fun} {id : Int} : ∀ {n m : Nat}, n ≤ m → linesAt f id n = none → linesAt f id m = none
  | n, 0, hle, h => by
    obtain rfl : n = 0 := by omega
    exact h
  | n, m + 1, hle, h => by
    by_cases e : n = m + 1
    · subst e; exact h
    · have := linesAt_none (m := m) (by omega) h
      unfold linesAt
      rw [this]; rfl
def docAt (f : Fun) (id : Int) : Option (Dc × List Dl) := (docHead f id).bind fun d => (linesAt f id d.lines.toNat).map fun l => (d, l)
def docsGetSpec : Vm.Spec := fun args h Q => ∃ (V : VId) (f : Fun) (id : Int), args = [.ptr V.iv 0, .v (.int .i64 id)] ∧ isView h V f ∧
  (∀ d l, docAt f id = some (d, l) → l.length ≤ 6 → d.lines = l.length → Q (.otup 1 true 62 4 (l.map dlAv) [.agg (dcCells d), .any, .v (.bool true)]) h) ∧
  (docAt f id = none → Q (.tup [.agg (dcCells .zero), .v (.slice none 0 0), .v (.bool false)]) h)
theorem headOk_iff {id : Int} {d : Dc} : headOk id d = true ↔ d.id = id ∧ 1 ≤ d.lines ∧ d.lines ≤ 6 := by
  simp [headOk]
theorem docHead_ok {f : Fun} {id : Int} {d : Dc} (h : docHead f id = some d) : d.id = id ∧ 1 ≤ d.lines ∧ d.lines ≤ 6 := by
  unfold docHead at h
  cases h1 : f (dcK id) with
  | none => rw [h1] at h; cases h
  | some v =>
    rw [h1, Option.bind_some] at h
    cases h2 : docOf (dcK id) v with
    | none => rw [h2] at h; cases h
    | some d2 =>
      rw [h2, Option.bind_some] at h
      split at h
      · rename_i hc; cases h; exact headOk_iff.1 hc
      · cases h
set_option maxRecDepth 20000 in
set_option maxHeartbeats 2000000 in
theorem does_docsGet : Does Tryz.prog 37 docsGetSpec := by
  refine does_of_awpO 1 (good_cons does_doc (good_cons does_dline good_nil)) Tryz.func37 rfl (by decide +kernel) (by decide +kernel) ?_
  rintro args h Q ⟨V, f, id, rfl, hV, hq1, hq2⟩
  refine ⟨by simp [Tryz.f37], ?_⟩
  rw [awpFuncO_some (by rfl)]
  unfold docAt at hq1 hq2
  simp only [dcCells, Dc.zero] at hq2
  simp -dsimp only [Vm.G, List.lookup, Nat.reduceAdd, Nat.reduceBEq, Int.reduceBNe, Int.reduceBEq, Nat.reduceLeDiff, q37]
  refine call_one (S := docSpec) rfl _ GaL.rfl ⟨V, f, id, rfl, hV, fun d hd => ?_, fun hd d => ?_⟩
  · rw [hd] at hq1 hq2
    simp only [Option.bind_some] at hq1 hq2
    obtain ⟨-, hd1, hd2⟩ := docHead_ok hd
    simp only [dcCells] at hq1 ⊢
    have hn : ∃ n : Nat, d.lines = n ∧ 1 ≤ n ∧ n ≤ 6 := ⟨d.lines.toNat, by omega, by omega, by omega⟩
    rcases hn with ⟨n, hn, hn1, hn6⟩
    have htn : d.lines.toNat = n := by omega
    rw [htn] at hq1 hq2
    have cz : cst (.agg #[.int .i64 0, .int .i64 0, .int .i64 0, .int .i64 0]) = dlAv .zero := by simp [cst, plain, dlAv, dlCells, Dl.zero]
    simp -dsimp only [Vm.G, List.lookup, Nat.reduceAdd, Nat.reduceBEq, Int.reduceBNe, Int.reduceBEq, Nat.reduceLeDiff, q37, hn]
    refine make_intro ei55 z62 (.inr ⟨_, rfl, by simp [plain]⟩) (by omega) (Int.le_refl _) (by omega) (by omega) ?_
    rw [cz, Int.toNat_natCast]
    simp -dsimp only [Vm.G, List.lookup, Nat.reduceAdd, Nat.reduceBEq, Int.reduceBNe, Int.reduceBEq, Nat.reduceLeDiff, q37, List.length_replicate]
    refine awp_loop (fun m s h' => ∃ (i : Nat) (l : List Dl), i + m = n ∧ h' = h ∧ linesAt f id i = some l ∧ s = mk [(1, .v (.int .i64 id)), (7, .box [.ptr V.iv 0]), (8, .box [.v (.int .i64 d.id), .v (.int .i64 d.kind), .v (.int .i64 d.year), .v (.int .i64 d.frm), .v (.int .i64 d.lines)]), (10, .own true 62 4 ((l).map dlAv ++ List.replicate (n - (i)) (dlAv .zero))), (29, .v (.int .i64 (n : Nat))), (30, .v (.int .i64 (i : Nat))), (4, .box [.v (.int .i64 0), .v (.int .i64 0), .v (.int .i64 0), .v (.int .i64 0), .v (.int .i64 0)])])
      n _ (le_mk _ ?_) ⟨0, [], by omega, rfl, rfl, rfl⟩ ?_
    · simp only [List.forall_mem_cons, List.not_mem_nil, false_imp_iff, implies_true, and_true, List.map_nil, List.nil_append, Nat.sub_zero, hn]
      try simp -dsimp only [Vm.G, List.lookup, Nat.reduceAdd, Nat.reduceBEq, Int.reduceBNe, Int.reduceBEq, Nat.reduceLeDiff, q37, List.map_nil, List.nil_append, Nat.sub_zero, hn]
      repeat' first | exact Fg.refl _ | exact Fg.nil _ _ _ (by decide) | refine And.intro ?_ ?_
    · rintro m s h' ⟨i, l, hi, rfl, hli, rfl⟩
      simp -dsimp only [Vm.G, List.lookup, Nat.reduceAdd, Nat.reduceBEq, Int.reduceBNe, Int.reduceBEq, Nat.reduceLeDiff, q37]
      refine cond_intro (fun hcc => ?_) (fun hcc => ?_)
      · have hlt : i < n := by have := of_decide_eq_true hcc; omega
        have hw : IntKind.i64.wrap ((i : Int) + 1) = ((i + 1 : Nat) : Int) := by rw [wrap_i64 (by omega) (by omega)]; simp
        have hll := linesAt_length hli
        have hsuc : linesAt f id (i + 1) = (lineAt f id i).map fun x => l ++ [x] := by
          show (linesAt f id i).bind _ = _
          rw [hli]; rfl
        simp -dsimp only [Vm.G, List.lookup, Nat.reduceAdd, Nat.reduceBEq, Int.reduceBNe, Int.reduceBEq, Nat.reduceLeDiff, q37]
        refine call_one (S := dlineSpec) rfl _ GaL.rfl ⟨V, f, id, (i : Nat), rfl, hV, fun x hx => ?_, fun hx => ?_⟩
        · rw [hx] at hsuc
          have hsuc : linesAt f id (i + 1) = some (l ++ [x]) := hsuc
          have hgi : (l.map dlAv ++ List.replicate (n - i) (dlAv .zero))[i]? = some (dlAv .zero) := by
            rw [List.getElem?_append_right (by simp; omega), List.length_map, hll, Nat.sub_self, List.getElem?_replicate, if_pos (by omega)]
          have hre : (l.map dlAv ++ List.replicate (n - i) (dlAv .zero)).set i (dlAv x) = (l ++ [x]).map dlAv ++ List.replicate (n - (i + 1)) (dlAv .zero) := by
            rw [List.set_append_right _ _ (by simp; omega), List.length_map, hll, Nat.sub_self, show n - i = (n - (i + 1)) + 1 by omega, List.replicate_succ, List.set_cons_zero]
            simp
          simp only [dlCells]
          simp -dsimp only [Vm.G, List.lookup, Nat.reduceAdd, Nat.reduceBEq, Int.reduceBNe, Int.reduceBEq, Nat.reduceLeDiff, q37]
          refine idxO_intro (by omega) (by simp; omega) ?_
          simp -dsimp only [Vm.G, List.lookup, Nat.reduceAdd, Nat.reduceBEq, Int.reduceBNe, Int.reduceBEq, Nat.reduceLeDiff, q37, Int.toNat_natCast]
          refine store_elt 62 _ (by simp -dsimp only [Vm.E, List.lookup, Nat.reduceAdd, Nat.reduceBEq, Int.reduceBNe, Int.reduceBEq, Bool.true_beq, Bool.false_beq]) (y := dlAv .zero) hgi rfl rfl (by omega) rfl ?_
          simp only [dlAv, dlCells, AV.cells, putCells, reCell, List.take_zero, List.nil_append, List.length_cons, List.length_nil, Nat.zero_add, Nat.reduceAdd, List.drop_succ_cons, List.drop_zero, List.append_nil, List.drop_nil]
          simp only [dlAv, dlCells] at hre
          simp -dsimp only [Vm.G, List.lookup, Nat.reduceAdd, Nat.reduceBEq, Int.reduceBNe, Int.reduceBEq, Nat.reduceLeDiff, q37, hre]
          refine kept_intro ⟨n - (i + 1), by omega, _, le_mk [(1, .v (.int .i64 id)), (7, .box [.ptr V.iv 0]), (8, .box [.v (.int .i64 d.id), .v (.int .i64 d.kind), .v (.int .i64 d.year), .v (.int .i64 d.frm), .v (.int .i64 d.lines)]), (10, .own true 62 4 ((l ++ [x]).map dlAv ++ List.replicate (n - (i + 1)) (dlAv .zero))), (29, .v (.int .i64 (n : Nat))), (30, .v (.int .i64 (i + 1 : Nat))), (4, .box [.v (.int .i64 0), .v (.int .i64 0), .v (.int .i64 0), .v (.int .i64 0), .v (.int .i64 0)])] ?_, i + 1, l ++ [x], by omega, rfl, hsuc, rfl⟩
          simp only [List.forall_mem_cons, List.not_mem_nil, false_imp_iff, implies_true, and_true, hw, dlAv, dlCells]
          try simp -dsimp only [Vm.G, List.lookup, Nat.reduceAdd, Nat.reduceBEq, Int.reduceBNe, Int.reduceBEq, Nat.reduceLeDiff, q37, hw, dlAv, dlCells]
          repeat' first | exact Fg.refl _ | exact Fg.nil _ _ _ (by decide) | refine And.intro ?_ ?_
        · rw [hx] at hsuc
          rw [linesAt_none (m := n) (by omega) hsuc] at hq2
          simp only [dlCells]
          simp -dsimp only [Vm.G, List.lookup, Nat.reduceAdd, Nat.reduceBEq, Int.reduceBNe, Int.reduceBEq, Nat.reduceLeDiff, q37]
          exact hq2 rfl
      · have hge : ¬ i < n := by have := of_decide_eq_false hcc; omega
        obtain rfl : i = n := by omega
        rw [hli] at hq1
        have hll := linesAt_length hli
        have hq := hq1 d l rfl (by omega) (by omega)
        clear hq1 hq2
        rw [Nat.sub_self, List.replicate_zero, List.append_nil]
        simp -dsimp only [Vm.G, List.lookup, Nat.reduceAdd, Nat.reduceBEq, Int.reduceBNe, Int.reduceBEq, Nat.reduceLeDiff, q37]
        exact hq
  · rw [hd] at hq2
    simp only [dcCells]
    simp -dsimp only [Vm.G, List.lookup, Nat.reduceAdd, Nat.reduceBEq, Int.reduceBNe, Int.reduceBEq, Nat.reduceLeDiff, q37]
    exact hq2 rfl
def docsSet (f : Fun) (id i : Int) (x : Dl) : Fun × Int := match docAt f id with
  | some (_, l) => if 0 ≤ i ∧ i < l.length then (upd f (dlK id i) (some (dlV x)), 0) else (f, 7)
  | none => (f, 7)
def docsSetSpec : Vm.Spec := fun args h Q => ∃ (V : VId) (f : Fun) (id i : Int) (x : Dl), I64 id ∧ I64 i ∧ x.ok ∧ args = [.ptr V.iv 0, .v (.int .i64 id), .v (.int .i64 i), dlAv x] ∧ isView h V f ∧
  ∀ h', isView h' V (docsSet f id i x).1 → Same h h' [V.ic] → Q (.v (.int .i64 (docsSet f id i x).2)) h'
set_option maxRecDepth 20000 in
set_option maxHeartbeats 1000000 in
theorem does_docsSet : Does Tryz.prog 43 docsSetSpec := by
  refine does_of_awp (good_cons does_docsGet (good_cons does_recDl (good_cons does_dset good_nil))) Tryz.func43 rfl (by decide +kernel) (by decide +kernel) ?_
  rintro args h Q ⟨V, f, id, i, x, hid, hii, hx, rfl, hV, hq⟩
  refine ⟨by simp [Tryz.f43], ?_⟩
  rw [awpFunc_some (by rfl)]
  unfold docsSet at hq
  simp only [dlAv, dlCells]
  simp -dsimp only [Vm.G, List.lookup, Nat.reduceAdd, Nat.reduceBEq, Int.reduceBNe, Int.reduceBEq, Nat.reduceLeDiff, q43]
  refine call_one (S := docsGetSpec) rfl _ GaL.rfl ⟨V, f, id, rfl, hV, fun d l hd hl6 hdl => ?_, fun hd => ?_⟩
  · rw [hd] at hq
    simp only [dcCells] at hq ⊢
    simp -dsimp only [Vm.G, List.lookup, Nat.reduceAdd, Nat.reduceBEq, Int.reduceBNe, Int.reduceBEq, Nat.reduceLeDiff, q43]
    have hd1 := Bool.eq_false_or_eq_true (decide (i < 0))
    rcases hd1 with c1 | c1
    · have d1 := of_decide_eq_true c1
      rw [if_neg (by omega)] at hq
      simp -dsimp only [Vm.G, List.lookup, Nat.reduceAdd, Nat.reduceBEq, Int.reduceBNe, Int.reduceBEq, Nat.reduceLeDiff, q43, c1]
      exact hq h hV (.refl _ _)
    · have d1 := of_decide_eq_false c1
      have hd2 := Bool.eq_false_or_eq_true (decide (i ≥ (l.length : Int)))
      rcases hd2 with c2 | c2
      · have d2 := of_decide_eq_true c2
        rw [if_neg (by omega)] at hq
        simp -dsimp only [Vm.G, List.lookup, Nat.reduceAdd, Nat.reduceBEq, Int.reduceBNe, Int.reduceBEq, Nat.reduceLeDiff, q43, c1, c2, List.length_map]
        exact hq h hV (.refl _ _)
      · have d2 := of_decide_eq_false c2
        rw [if_pos (by omega)] at hq
        simp -dsimp only [Vm.G, List.lookup, Nat.reduceAdd, Nat.reduceBEq, Int.reduceBNe, Int.reduceBEq, Nat.reduceLeDiff, q43, c1, c2, List.length_map]
        refine call_one (S := rdlSpec) rfl _ GaL.rfl ⟨id, i, x, hid, hii, hx, rfl, ?_⟩
        simp -dsimp only [Vm.G, List.lookup, Nat.reduceAdd, Nat.reduceBEq, Int.reduceBNe, Int.reduceBEq, Nat.reduceLeDiff, q43]
        refine call_one (S := dsetSpec) rfl _ GaL.rfl ⟨V, f, dlK id i, dlV x, rfl, right_dl id i x, hV, fun h2 g1 g2 => ?_⟩
        simp -dsimp only [Vm.G, List.lookup, Nat.reduceAdd, Nat.reduceBEq, Int.reduceBNe, Int.reduceBEq, Nat.reduceLeDiff, q43]
        exact hq h2 g1 g2
  · rw [hd] at hq
    simp only [dcCells, Dc.zero] at hq ⊢
    simp -dsimp only [Vm.G, List.lookup, Nat.reduceAdd, Nat.reduceBEq, Int.reduceBNe, Int.reduceBEq, Nat.reduceLeDiff, q43]
    exact hq h hV (.refl _ _)
def openD (x : Dl) : Int := w64 (x.orig - w64 (x.liq + x.can))
def openDSpec : Vm.Spec := fun args h Q => ∃ x : Dl, args = [dlAv x] ∧ Q (.v (.int .i64 (openD x))) h
theorem does_docsOpen : Does Tryz.prog 48 openDSpec := by
  refine does_of_awp good_nil Tryz.func48 rfl (by decide +kernel) (by decide +kernel) ?_
  rintro args h Q ⟨x, rfl, hq⟩
  refine ⟨by simp [Tryz.f48], ?_⟩
  rw [awpFunc_some (by rfl)]
  simp only [dlAv, dlCells]
  simp -dsimp only [Vm.G, List.lookup, Nat.reduceAdd, Nat.reduceBEq, Int.reduceBNe, Int.reduceBEq, Nat.reduceLeDiff, q48]
  exact hq
end Go.Proofs.Lx
/- Documents, the reference's: ref30. -/
set_option linter.unusedSimpArgs false
set_option linter.unusedVariables false
namespace Go.Proofs.Lx
open Go.Vm
attribute [local irreducible] awpArr awpBin awpMake awpAppend awpCvX awpStrOf awpBinX awpSlice awpBS awpStore awpAlloc awpCopy awpIndex awpDraw awpIdxX awpFa awpField awpLookup awpUpdate awpDelete awpClear awpRange awpNext awpEntry awpBuild awpClearS awpIdxL awpTree appB awpIdxO eltA treeA
theorem does_rDl : Does Tryz.prog 117 rdlSpec := by
  refine does_of_awp (good_cons does_rPair good_nil) Tryz.func117 rfl (by decide +kernel) (by decide +kernel) ?_
  rintro args h Q ⟨id, i, x, hid, hi, ⟨o1, o2, o3, o4⟩, rfl, hq⟩
  refine ⟨by simp [Tryz.f117], ?_⟩
  rw [awpFunc_some (by rfl)]
  simp only [dlAv, dlCells]
  simp -dsimp only [Vm.G, List.lookup, Nat.reduceAdd, Nat.reduceBEq, Int.reduceBNe, Int.reduceBEq, Nat.reduceLeDiff, q117]
  refine bs_intro zr3 (by decide) (by decide) rfl rfl (by simp [solid, AV.cells]) ?_
  simp -dsimp only [Vm.G, List.lookup, Nat.reduceAdd, Nat.reduceBEq, Int.reduceBNe, Int.reduceBEq, Nat.reduceLeDiff, q117]
  refine bs_intro zr3 (by decide) (by decide) rfl rfl (by simp [solid, AV.cells]) ?_
  simp -dsimp only [Vm.G, List.lookup, Nat.reduceAdd, Nat.reduceBEq, Int.reduceBNe, Int.reduceBEq, Nat.reduceLeDiff, q117]
  refine call_one (S := rPairSpec) rfl _ GaL.rfl ⟨76, [id, i], [x.node, x.orig, x.liq, x.can], by simp, by simp, ?_, rfl, ?_⟩
  · intro m hm
    simp only [List.mem_cons, List.not_mem_nil, or_false] at hm
    rcases hm with rfl | rfl | rfl | rfl <;> assumption
  · simp -dsimp only [Vm.G, List.lookup, Nat.reduceAdd, Nat.reduceBEq, Int.reduceBNe, Int.reduceBEq, Nat.reduceLeDiff, q117]
    exact hq
theorem does_rDc : Does Tryz.prog 118 rdcSpec := by
  refine does_of_awp (good_cons does_rPair good_nil) Tryz.func118 rfl (by decide +kernel) (by decide +kernel) ?_
  rintro args h Q ⟨d, ⟨o1, o2, o3, o4, o5⟩, rfl, hq⟩
  refine ⟨by simp [Tryz.f118], ?_⟩
  rw [awpFunc_some (by rfl)]
  simp only [dcCells]
  simp -dsimp only [Vm.G, List.lookup, Nat.reduceAdd, Nat.reduceBEq, Int.reduceBNe, Int.reduceBEq, Nat.reduceLeDiff, q118]
  refine bs_intro zr3 (by decide) (by decide) rfl rfl (by simp [solid, AV.cells]) ?_
  simp -dsimp only [Vm.G, List.lookup, Nat.reduceAdd, Nat.reduceBEq, Int.reduceBNe, Int.reduceBEq, Nat.reduceLeDiff, q118]
  refine bs_intro zr3 (by decide) (by decide) rfl rfl (by simp [solid, AV.cells]) ?_
  simp -dsimp only [Vm.G, List.lookup, Nat.reduceAdd, Nat.reduceBEq, Int.reduceBNe, Int.reduceBEq, Nat.reduceLeDiff, q118]
  refine call_one (S := rPairSpec) rfl _ GaL.rfl ⟨68, [d.id], [d.kind, d.year, d.frm, d.lines], by simp, by simp, ?_, rfl, ?_⟩
  · intro m hm
    simp only [List.mem_cons, List.not_mem_nil, or_false] at hm
    rcases hm with rfl | rfl | rfl | rfl <;> assumption
  · simp -dsimp only [Vm.G, List.lookup, Nat.reduceAdd, Nat.reduceBEq, Int.reduceBNe, Int.reduceBEq, Nat.reduceLeDiff, q118]
    exact hq
def rDocOfSpec : Vm.Spec := fun args h Q => ∃ key val : List UInt8, key.length ≤ 1073741824 ∧ val.length ≤ 1073741824 ∧ args = [.agg [.sl 1 (key.map encB), .sl 1 (val.map encB)]] ∧
  (∀ d, docOf key val = some d → Q (.tup [.agg (dcCells d), .v (.bool true)]) h) ∧ (docOf key val = none → Q (.tup [.agg (dcCells .zero), .v (.bool false)]) h)
set_option maxRecDepth 20000 in
set_option maxHeartbeats 1000000 in
theorem does_rDocOf : Does Tryz.prog 120 rDocOfSpec := by
  refine does_of_awp (good_cons does_rBoth good_nil) Tryz.func120 rfl (by decide +kernel) (by decide +kernel) ?_
  rintro args h Q ⟨key, val, hk, hv, rfl, hq1, hq2⟩
  refine ⟨by simp [Tryz.f120], ?_⟩
  rw [awpFunc_some (by rfl)]
  unfold docOf at hq1 hq2
  rw [both_nums] at hq1 hq2
  simp only [dcCells, Dc.zero] at hq2
  simp -dsimp only [Vm.G, List.lookup, Nat.reduceAdd, Nat.reduceBEq, Int.reduceBNe, Int.reduceBEq, Nat.reduceLeDiff, q120]
  refine call_one (S := rBothSpec) rfl _ GaL.rfl ⟨68, 1, 4, key, val, by omega, by omega, hk, hv, rfl, fun p hp => ?_, fun hp a b => ?_⟩
  · have hlen := both_length hp
    obtain ⟨kl, vl⟩ := p
    obtain ⟨hl1, hl2⟩ := hlen
    match kl, hl1 with
    | [k0], _ =>
    match vl, hl2 with
    | [b0, b1, b2, b3], _ =>
    rw [hp] at hq1
    have hq1' := hq1 _ rfl
    clear hq1 hq2 hp
    simp -dsimp only [Vm.G, List.lookup, Nat.reduceAdd, Nat.reduceBEq, Int.reduceBNe, Int.reduceBEq, Nat.reduceLeDiff, q120]
    refine draw_cont [] (.take 0 (.take 1 (.take 2 (.take 3 (.take 4 (.take 5 (.take 6 (.take 7 (.take 8 (.take 9 (.take 10 (.take 11 (.take 12 (.take 13 (.take 14 (.alt 15 (.alt 16 (.alt 17 (.done) .stop) .stop) .stop)))))))))))))))) (fun s h2 => h2 = h ∧ s 2 = .box (dcCells ⟨k0, b0, b1, b2, b3⟩) ∧ s 3 = .v (.bool true)) (by kernel_rfl) (by kernel_rfl) (by kernel_rfl) (by decide) ?_ ?_
    · simp -dsimp only [Vm.G, List.lookup, Nat.reduceAdd, Nat.reduceBEq, Int.reduceBNe, Int.reduceBEq, Nat.reduceLeDiff, q120, idx_lit, idxE_some, Int.reduceToNat, Int.reduceLE, decide_true, eq_self, encI]
      repeat' first | rfl | exact True.intro | refine And.intro ?_ ?_
    · rintro s h2 ⟨rfl, e2, e3⟩
      simp only [dcCells] at e2
      simp -dsimp only [Vm.G, List.lookup, Nat.reduceAdd, Nat.reduceBEq, Int.reduceBNe, Int.reduceBEq, Nat.reduceLeDiff, q120, e2, e3]
      exact hq1'
  · rw [hp] at hq2
    simp -dsimp only [Vm.G, List.lookup, Nat.reduceAdd, Nat.reduceBEq, Int.reduceBNe, Int.reduceBEq, Nat.reduceLeDiff, q120]
    exact hq2 rfl
def rLineOfSpec : Vm.Spec := fun args h Q => ∃ key val : List UInt8, key.length ≤ 1073741824 ∧ val.length ≤ 1073741824 ∧ args = [.agg [.sl 1 (key.map encB), .sl 1 (val.map encB)]] ∧
  (∀ d, lineOf key val = some d → Q (.tup [.agg (dlCells d), .v (.bool true)]) h) ∧ (lineOf key val = none → Q (.tup [.agg (dlCells .zero), .v (.bool false)]) h)
set_option maxRecDepth 20000 in
set_option maxHeartbeats 1000000 in
theorem does_rLineOf : Does Tryz.prog 199 rLineOfSpec := by
  refine does_of_awp (good_cons does_rBoth good_nil) Tryz.func199 rfl (by decide +kernel) (by decide +kernel) ?_
  rintro args h Q ⟨key, val, hk, hv, rfl, hq1, hq2⟩
  refine ⟨by simp [Tryz.f199], ?_⟩
  rw [awpFunc_some (by rfl)]
  unfold lineOf at hq1 hq2
  rw [both_nums] at hq1 hq2
  simp only [dlCells, Dl.zero] at hq2
  simp -dsimp only [Vm.G, List.lookup, Nat.reduceAdd, Nat.reduceBEq, Int.reduceBNe, Int.reduceBEq, Nat.reduceLeDiff, q199]
  refine call_one (S := rBothSpec) rfl _ GaL.rfl ⟨76, 2, 4, key, val, by omega, by omega, hk, hv, rfl, fun p hp => ?_, fun hp a b => ?_⟩
  · have hlen := both_length hp
    obtain ⟨kl, vl⟩ := p
    obtain ⟨hl1, hl2⟩ := hlen
    match kl, hl1 with
    | [k0, k1], _ =>
    match vl, hl2 with
    | [b0, b1, b2, b3], _ =>
    rw [hp] at hq1
    have hq1' := hq1 _ rfl
    clear hq1 hq2 hp
    simp -dsimp only [Vm.G, List.lookup, Nat.reduceAdd, Nat.reduceBEq, Int.reduceBNe, Int.reduceBEq, Nat.reduceLeDiff, q199]
    refine draw_cont [] (.take 0 (.take 1 (.take 2 (.take 3 (.take 4 (.take 5 (.take 6 (.take 7 (.take 8 (.take 9 (.take 10 (.take 11 (.alt 12 (.alt 13 (.alt 14 (.done) .stop) .stop) .stop))))))))))))) (fun s h2 => h2 = h ∧ s 2 = .box (dlCells ⟨b0, b1, b2, b3⟩) ∧ s 3 = .v (.bool true)) (by kernel_rfl) (by kernel_rfl) (by kernel_rfl) (by decide) ?_ ?_
    · simp -dsimp only [Vm.G, List.lookup, Nat.reduceAdd, Nat.reduceBEq, Int.reduceBNe, Int.reduceBEq, Nat.reduceLeDiff, q199, idx_lit, idxE_some, Int.reduceToNat, Int.reduceLE, decide_true, eq_self, encI]
      repeat' first | rfl | exact True.intro | refine And.intro ?_ ?_
    · rintro s h2 ⟨rfl, e2, e3⟩
      simp only [dlCells] at e2
      simp -dsimp only [Vm.G, List.lookup, Nat.reduceAdd, Nat.reduceBEq, Int.reduceBNe, Int.reduceBEq, Nat.reduceLeDiff, q199, e2, e3]
      exact hq1'
  · rw [hp] at hq2
    simp -dsimp only [Vm.G, List.lookup, Nat.reduceAdd, Nat.reduceBEq, Int.reduceBNe, Int.reduceBEq, Nat.reduceLeDiff, q199]
    exact hq2 rfl
theorem lineOf_nil (key : List UInt8) : lineOf key [] = none := by
  unfold lineOf numsPair
  cases splitOf key with
  | none => rfl
  | some p => simp
theorem docOf_nil (key : List UInt8) : docOf key [] = none := by
  unfold docOf numsPair
  cases splitOf key with
  | none => rfl
  | some p => simp
def rlineSpec : Vm.Spec := fun args h Q => ∃ (R : RId) (f : Fun) (id i : Int), args = [.ptr R.iv 0, .v (.int .i64 id), .v (.int .i64 i)] ∧ isRef h R f ∧ f.n ≤ 536870912 ∧
  (∀ d, lineAt f id i = some d → Q (.tup [.agg (dlCells d), .v (.bool true)]) h) ∧ (lineAt f id i = none → Q (.tup [.agg (dlCells .zero), .v (.bool false)]) h)
set_option maxRecDepth 20000 in
theorem does_rline : Does Tryz.prog 121 rlineSpec := by
  refine does_of_awp (good_cons does_rKey (good_cons does_rGet (good_cons does_rLineOf good_nil))) Tryz.func121 rfl (by decide +kernel) (by decide +kernel) ?_
  rintro args h Q ⟨R, f, id, i, rfl, hR, hfn, hq1, hq2⟩
  refine ⟨by simp [Tryz.f121], ?_⟩
  rw [awpFunc_some (by rfl)]
  have hk := dlK_length id i
  unfold lineAt at hq1 hq2
  simp only [dlCells, Dl.zero] at hq2
  simp -dsimp only [Vm.G, List.lookup, Nat.reduceAdd, Nat.reduceBEq, Int.reduceBNe, Int.reduceBEq, Nat.reduceLeDiff, q121]
  refine bs_intro zr3 (by decide) (by decide) rfl rfl (by simp [solid, AV.cells]) ?_
  simp -dsimp only [Vm.G, List.lookup, Nat.reduceAdd, Nat.reduceBEq, Int.reduceBNe, Int.reduceBEq, Nat.reduceLeDiff, q121]
  refine call_one (S := keySpec) rfl _ GaL.rfl ⟨76, [id, i], by simp, rfl, ?_⟩
  have ek : keyOf 76 [id, i] = dlK id i := rfl
  simp -dsimp only [Vm.G, List.lookup, Nat.reduceAdd, Nat.reduceBEq, Int.reduceBNe, Int.reduceBEq, Nat.reduceLeDiff, q121, ek]
  generalize dlK id i = key at hk hq1 hq2 ⊢
  refine call_one (S := rGetSpec) rfl _ GaL.rfl ⟨R, f, key, rfl, hR, hfn, fun v hf => ?_, fun hf => ?_⟩
  · have hvl := (hR.len hf).2
    rw [hf] at hq1 hq2
    simp only [Option.bind_some] at hq1 hq2
    simp -dsimp only [Vm.G, List.lookup, Nat.reduceAdd, Nat.reduceBEq, Int.reduceBNe, Int.reduceBEq, Nat.reduceLeDiff, q121]
    refine call_one (S := rLineOfSpec) rfl _ GaL.rfl ⟨key, v, by omega, by omega, rfl, fun d hd => ?_, fun hd => ?_⟩
    · have hq := hq1 d hd
      simp only [dlCells] at hq ⊢
      simp -dsimp only [Vm.G, List.lookup, Nat.reduceAdd, Nat.reduceBEq, Int.reduceBNe, Int.reduceBEq, Nat.reduceLeDiff, q121]
      exact hq
    · have hq := hq2 hd
      simp only [dlCells, Dl.zero]
      simp -dsimp only [Vm.G, List.lookup, Nat.reduceAdd, Nat.reduceBEq, Int.reduceBNe, Int.reduceBEq, Nat.reduceLeDiff, q121]
      exact hq
  · rw [hf] at hq2
    simp -dsimp only [Vm.G, List.lookup, Nat.reduceAdd, Nat.reduceBEq, Int.reduceBNe, Int.reduceBEq, Nat.reduceLeDiff, q121]
    refine call_one (S := rLineOfSpec) rfl _ GaL.rfl ⟨key, [], by omega, by simp, rfl, fun d hd => ?_, fun hd => ?_⟩
    · rw [lineOf_nil] at hd; cases hd
    · simp only [dlCells, Dl.zero]
      simp -dsimp only [Vm.G, List.lookup, Nat.reduceAdd, Nat.reduceBEq, Int.reduceBNe, Int.reduceBEq, Nat.reduceLeDiff, q121]
      exact hq2 rfl
def rDocsGetSpec : Vm.Spec := fun args h Q => ∃ (R : RId) (f : Fun) (id : Int), args = [.ptr R.iv 0, .v (.int .i64 id)] ∧ isRef h R f ∧ f.n ≤ 536870912 ∧
  (∀ d l, docAt f id = some (d, l) → l.length ≤ 6 → d.lines = l.length → Q (.otup 1 true 62 4 (l.map dlAv) [.agg (dcCells d), .any, .v (.bool true)]) h) ∧
  (docAt f id = none → Q (.tup [.agg (dcCells .zero), .v (.slice none 0 0), .v (.bool false)]) h)
set_option maxRecDepth 20000 in
set_option maxHeartbeats 2000000 in
theorem does_rDocsGet : Does Tryz.prog 45 rDocsGetSpec := by
  refine does_of_awpO 1 (good_cons does_rKey (good_cons does_rGet (good_cons does_rDocOf (good_cons does_rline good_nil)))) Tryz.func45 rfl (by decide +kernel) (by decide +kernel) ?_
  rintro args h Q ⟨R, f, id, rfl, hR, hfn, hq1, hq2⟩
  refine ⟨by simp [Tryz.f45], ?_⟩
  rw [awpFuncO_some (by rfl)]
  have hk := dcK_length id
  unfold docAt docHead at hq1 hq2
  simp only [dcCells, Dc.zero] at hq2
  simp -dsimp only [Vm.G, List.lookup, Nat.reduceAdd, Nat.reduceBEq, Int.reduceBNe, Int.reduceBEq, Nat.reduceLeDiff, q45]
  refine bs_intro zr3 (by decide) (by decide) rfl rfl (by simp [solid, AV.cells]) ?_
  simp -dsimp only [Vm.G, List.lookup, Nat.reduceAdd, Nat.reduceBEq, Int.reduceBNe, Int.reduceBEq, Nat.reduceLeDiff, q45]
  refine call_one (S := keySpec) rfl _ GaL.rfl ⟨68, [id], by simp, rfl, ?_⟩
  have ek : keyOf 68 [id] = dcK id := rfl
  simp -dsimp only [Vm.G, List.lookup, Nat.reduceAdd, Nat.reduceBEq, Int.reduceBNe, Int.reduceBEq, Nat.reduceLeDiff, q45, ek]
  generalize dcK id = key at hk hq1 hq2 ⊢
  refine call_one (S := rGetSpec) rfl _ GaL.rfl ⟨R, f, key, rfl, hR, hfn, fun v hf => ?_, fun hf => ?_⟩
  · have hvl := (hR.len hf).2
    rw [hf] at hq1 hq2
    simp only [Option.bind_some] at hq1 hq2
    simp -dsimp only [Vm.G, List.lookup, Nat.reduceAdd, Nat.reduceBEq, Int.reduceBNe, Int.reduceBEq, Nat.reduceLeDiff, q45]
    refine call_one (S := rDocOfSpec) rfl _ GaL.rfl ⟨key, v, by omega, by omega, rfl, fun d hd => ?_, fun hd => ?_⟩
    · rw [hd] at hq1 hq2
      simp only [Option.bind_some] at hq1 hq2
      simp only [dcCells] at hq1 ⊢
      have hh := Bool.eq_false_or_eq_true (headOk id d)
      rcases hh with c | c
      · rw [if_pos c] at hq1 hq2
        simp only [Option.bind_some] at hq1 hq2
        have hk3 := headOk_iff.1 c
        rcases hk3 with ⟨hid, hd1, hd2⟩
        have hn : ∃ n : Nat, d.lines = n ∧ 1 ≤ n ∧ n ≤ 6 := ⟨d.lines.toNat, by omega, by omega, by omega⟩
        rcases hn with ⟨n, hn, hn1, hn6⟩
        have htn : d.lines.toNat = n := by omega
        rw [htn] at hq1 hq2
        have c1 : (d.id != id) = false := by simp [hid]
        have c2 : decide (d.lines < 1) = false := decide_eq_false (by omega)
        have c3 : decide (d.lines > 6) = false := decide_eq_false (by omega)
        simp -dsimp only [Vm.G, List.lookup, Nat.reduceAdd, Nat.reduceBEq, Int.reduceBNe, Int.reduceBEq, Nat.reduceLeDiff, q45, c1, c2, c3]
        refine awp_loop (fun m s h' => ∃ (i : Nat) (l : List Dl), i + m = n ∧ h' = h ∧ linesAt f id i = some l ∧ s = mk [(0, .ptr R.iv 0), (1, .v (.int .i64 id)), (4, .box [.v (.int .i64 0), .v (.int .i64 0), .v (.int .i64 0), .v (.int .i64 0), .v (.int .i64 0)]), (10, .box [.v (.int .i64 d.id), .v (.int .i64 d.kind), .v (.int .i64 d.year), .v (.int .i64 d.frm), .v (.int .i64 d.lines)]), (12, .own true 62 4 ((l).map dlAv)), (13, .v (.int .i64 (i : Nat)))])
          n _ (le_mk _ ?_) ⟨0, [], by omega, rfl, rfl, rfl⟩ ?_
        · simp only [List.forall_mem_cons, List.not_mem_nil, false_imp_iff, implies_true, and_true]
          try simp -dsimp only [Vm.G, List.lookup, Nat.reduceAdd, Nat.reduceBEq, Int.reduceBNe, Int.reduceBEq, Nat.reduceLeDiff, q45]
          repeat' first | exact Fg.refl _ | exact Fg.nil _ _ _ (by decide) | refine And.intro ?_ ?_
        · rintro m s h' ⟨i, l, hi, rfl, hli, rfl⟩
          simp -dsimp only [Vm.G, List.lookup, Nat.reduceAdd, Nat.reduceBEq, Int.reduceBNe, Int.reduceBEq, Nat.reduceLeDiff, q45]
          refine cond_intro (fun hcc => ?_) (fun hcc => ?_)
          · have hlt : i < n := by have := of_decide_eq_true hcc; omega
            have hw : IntKind.i64.wrap ((i : Int) + 1) = ((i + 1 : Nat) : Int) := by rw [wrap_i64 (by omega) (by omega)]; simp
            have hll := linesAt_length hli
            have hsuc : linesAt f id (i + 1) = (lineAt f id i).map fun x => l ++ [x] := by
              show (linesAt f id i).bind _ = _
              rw [hli]; rfl
            simp -dsimp only [Vm.G, List.lookup, Nat.reduceAdd, Nat.reduceBEq, Int.reduceBNe, Int.reduceBEq, Nat.reduceLeDiff, q45]
            refine call_one (S := rlineSpec) rfl _ GaL.rfl ⟨R, f, id, (i : Nat), rfl, hR, hfn, fun x hx => ?_, fun hx => ?_⟩
            · rw [hx] at hsuc
              have hsuc : linesAt f id (i + 1) = some (l ++ [x]) := hsuc
              simp only [dlCells]
              simp -dsimp only [Vm.G, List.lookup, Nat.reduceAdd, Nat.reduceBEq, Int.reduceBNe, Int.reduceBEq, Nat.reduceLeDiff, q45]
              refine bs_intro zr62 (by decide) (by decide) rfl rfl (by simp [solid, AV.cells]) ?_
              simp -dsimp only [Vm.G, List.lookup, Nat.reduceAdd, Nat.reduceBEq, Int.reduceBNe, Int.reduceBEq, Nat.reduceLeDiff, q45]
              refine app_sl Tryz.underlying55 (by simp [AV.cells]) (by simp only [List.length_map, List.length_cons, List.length_nil]; omega) ?_
              simp -dsimp only [Vm.G, List.lookup, Nat.reduceAdd, Nat.reduceBEq, Int.reduceBNe, Int.reduceBEq, Nat.reduceLeDiff, q45]
              refine kept_intro ⟨n - (i + 1), by omega, _, le_mk [(0, .ptr R.iv 0), (1, .v (.int .i64 id)), (4, .box [.v (.int .i64 0), .v (.int .i64 0), .v (.int .i64 0), .v (.int .i64 0), .v (.int .i64 0)]), (10, .box [.v (.int .i64 d.id), .v (.int .i64 d.kind), .v (.int .i64 d.year), .v (.int .i64 d.frm), .v (.int .i64 d.lines)]), (12, .own true 62 4 ((l ++ [x]).map dlAv)), (13, .v (.int .i64 (i + 1 : Nat)))] ?_, i + 1, l ++ [x], by omega, rfl, hsuc, rfl⟩
              simp only [List.forall_mem_cons, List.not_mem_nil, false_imp_iff, implies_true, and_true, hw, dlAv, dlCells, List.map_append, List.map_cons, List.map_nil]
              try simp -dsimp only [Vm.G, List.lookup, Nat.reduceAdd, Nat.reduceBEq, Int.reduceBNe, Int.reduceBEq, Nat.reduceLeDiff, q45, hw, dlAv, dlCells, List.map_append, List.map_cons, List.map_nil]
              repeat' first | exact Fg.refl _ | exact Fg.nil _ _ _ (by decide) | refine And.intro ?_ ?_
            · rw [hx] at hsuc
              rw [linesAt_none (m := n) (by omega) hsuc] at hq2
              simp only [dlCells]
              simp -dsimp only [Vm.G, List.lookup, Nat.reduceAdd, Nat.reduceBEq, Int.reduceBNe, Int.reduceBEq, Nat.reduceLeDiff, q45]
              exact hq2 rfl
          · have hge : ¬ i < n := by have := of_decide_eq_false hcc; omega
            obtain rfl : i = n := by omega
            rw [hli] at hq1
            have hll := linesAt_length hli
            have hq := hq1 d l rfl (by omega) (by omega)
            clear hq1 hq2
            simp -dsimp only [Vm.G, List.lookup, Nat.reduceAdd, Nat.reduceBEq, Int.reduceBNe, Int.reduceBEq, Nat.reduceLeDiff, q45]
            exact hq
      · rw [if_neg (by rw [c]; decide)] at hq2
        have hq2 := hq2 rfl
        have h1 := Bool.eq_false_or_eq_true (d.id != id)
        rcases h1 with c1 | c1
        · simp -dsimp only [Vm.G, List.lookup, Nat.reduceAdd, Nat.reduceBEq, Int.reduceBNe, Int.reduceBEq, Nat.reduceLeDiff, q45, c1]
          exact hq2
        · have h2 := Bool.eq_false_or_eq_true (decide (d.lines < 1))
          rcases h2 with c2 | c2
          · simp -dsimp only [Vm.G, List.lookup, Nat.reduceAdd, Nat.reduceBEq, Int.reduceBNe, Int.reduceBEq, Nat.reduceLeDiff, q45, c1, c2]
            exact hq2
          · have h3 := Bool.eq_false_or_eq_true (decide (d.lines > 6))
            rcases h3 with c3 | c3
            · simp -dsimp only [Vm.G, List.lookup, Nat.reduceAdd, Nat.reduceBEq, Int.reduceBNe, Int.reduceBEq, Nat.reduceLeDiff, q45, c1, c2, c3]
              exact hq2
            · exfalso
              have d1 : d.id = id := by simpa using c1
              have d2 := of_decide_eq_false c2
              have d3 := of_decide_eq_false c3
              rw [headOk_iff.2 ⟨d1, by omega, by omega⟩] at c
              cases c
    · rw [hd] at hq2
      simp only [dcCells, Dc.zero]
      simp -dsimp only [Vm.G, List.lookup, Nat.reduceAdd, Nat.reduceBEq, Int.reduceBNe, Int.reduceBEq, Nat.reduceLeDiff, q45]
      exact hq2 rfl
  · rw [hf] at hq2
    simp -dsimp only [Vm.G, List.lookup, Nat.reduceAdd, Nat.reduceBEq, Int.reduceBNe, Int.reduceBEq, Nat.reduceLeDiff, q45]
    refine call_one (S := rDocOfSpec) rfl _ GaL.rfl ⟨key, [], by omega, by simp, rfl, fun d hd => ?_, fun hd => ?_⟩
    · rw [docOf_nil] at hd; cases hd
    · simp only [dcCells, Dc.zero]
      simp -dsimp only [Vm.G, List.lookup, Nat.reduceAdd, Nat.reduceBEq, Int.reduceBNe, Int.reduceBEq, Nat.reduceLeDiff, q45]
      exact hq2 rfl
def rDocsSetSpec : Vm.Spec := fun args h Q => ∃ (R : RId) (f : Fun) (id i : Int) (x : Dl), I64 id ∧ I64 i ∧ x.ok ∧ args = [.ptr R.iv 0, .v (.int .i64 id), .v (.int .i64 i), dlAv x] ∧ isRef h R f ∧ f.n ≤ 536870912 ∧
  ∀ h', isRef h' R (docsSet f id i x).1 → Same h h' (rFoot R) → Q (.v (.int .i64 (docsSet f id i x).2)) h'
set_option maxRecDepth 20000 in
set_option maxHeartbeats 1000000 in
theorem does_rDocsSet : Does Tryz.prog 44 rDocsSetSpec := by
  refine does_of_awp (good_cons does_rDocsGet (good_cons does_rDl (good_cons does_rSet good_nil))) Tryz.func44 rfl (by decide +kernel) (by decide +kernel) ?_
  rintro args h Q ⟨R, f, id, i, x, hid, hii, hx, rfl, hR, hfn, hq⟩
  refine ⟨by simp [Tryz.f44], ?_⟩
  rw [awpFunc_some (by rfl)]
  unfold docsSet at hq
  simp only [dlAv, dlCells]
  simp -dsimp only [Vm.G, List.lookup, Nat.reduceAdd, Nat.reduceBEq, Int.reduceBNe, Int.reduceBEq, Nat.reduceLeDiff, q44]
  refine call_one (S := rDocsGetSpec) rfl _ GaL.rfl ⟨R, f, id, rfl, hR, hfn, fun d l hd hl6 hdl => ?_, fun hd => ?_⟩
  · rw [hd] at hq
    simp only [dcCells] at hq ⊢
    simp -dsimp only [Vm.G, List.lookup, Nat.reduceAdd, Nat.reduceBEq, Int.reduceBNe, Int.reduceBEq, Nat.reduceLeDiff, q44]
    have hd1 := Bool.eq_false_or_eq_true (decide (i < 0))
    rcases hd1 with c1 | c1
    · have d1 := of_decide_eq_true c1
      rw [if_neg (by omega)] at hq
      simp -dsimp only [Vm.G, List.lookup, Nat.reduceAdd, Nat.reduceBEq, Int.reduceBNe, Int.reduceBEq, Nat.reduceLeDiff, q44, c1]
      exact hq h hR (.refl _ _)
    · have d1 := of_decide_eq_false c1
      have hd2 := Bool.eq_false_or_eq_true (decide (i ≥ (l.length : Int)))
      rcases hd2 with c2 | c2
      · have d2 := of_decide_eq_true c2
        rw [if_neg (by omega)] at hq
        simp -dsimp only [Vm.G, List.lookup, Nat.reduceAdd, Nat.reduceBEq, Int.reduceBNe, Int.reduceBEq, Nat.reduceLeDiff, q44, c1, c2, List.length_map]
        exact hq h hR (.refl _ _)
      · have d2 := of_decide_eq_false c2
        rw [if_pos (by omega)] at hq
        simp -dsimp only [Vm.G, List.lookup, Nat.reduceAdd, Nat.reduceBEq, Int.reduceBNe, Int.reduceBEq, Nat.reduceLeDiff, q44, c1, c2, List.length_map]
        refine call_one (S := rdlSpec) rfl _ GaL.rfl ⟨id, i, x, hid, hii, hx, rfl, ?_⟩
        simp -dsimp only [Vm.G, List.lookup, Nat.reduceAdd, Nat.reduceBEq, Int.reduceBNe, Int.reduceBEq, Nat.reduceLeDiff, q44]
        refine call_one (S := rSetSpec) rfl _ GaL.rfl ⟨R, f, (dlK id i, dlV x), rfl, hR, hfn, fun h2 g1 g2 => ?_⟩
        rw [if_pos (right_dl id i x)] at g1
        simp -dsimp only [Vm.G, List.lookup, Nat.reduceAdd, Nat.reduceBEq, Int.reduceBNe, Int.reduceBEq, Nat.reduceLeDiff, q44]
        exact hq h2 g1 g2
  · rw [hd] at hq
    simp only [dcCells, Dc.zero] at hq ⊢
    simp -dsimp only [Vm.G, List.lookup, Nat.reduceAdd, Nat.reduceBEq, Int.reduceBNe, Int.reduceBEq, Nat.reduceLeDiff, q44]
    exact hq h hR (.refl _ _)
theorem openD_ref (x : Dl) : w64 (w64 (x.orig - x.liq) - x.can) = openD x := by
  unfold openD
  have h1 : w64 (w64 (x.orig - x.liq) - x.can) = w64 (w64 (x.orig - x.liq) + -x.can) := rfl
  have h2 : ∀ a b : Int, w64 (w64 a + b) = w64 (a + b) := fun a b => by
    show IntKind.i64.wrap _ = IntKind.i64.wrap _
    rw [wrap_i64_toInt, wrap_i64_toInt]
    congr 1
    show BitVec.ofInt 64 (IntKind.i64.wrap a + b) = _
    rw [wrap_i64_toInt, BitVec.ofInt_add, BitVec.ofInt_toInt, ← BitVec.ofInt_add]
  have h3 : w64 (x.orig - w64 (x.liq + x.can)) = w64 (x.orig - (x.liq + x.can)) := by
    show IntKind.i64.wrap _ = IntKind.i64.wrap _
    rw [wrap_i64_toInt, wrap_i64_toInt]
    congr 1
    show BitVec.ofInt 64 (x.orig - IntKind.i64.wrap (x.liq + x.can)) = _
    rw [wrap_i64_toInt, Int.sub_eq_add_neg, Int.sub_eq_add_neg, BitVec.ofInt_add (x := x.orig), BitVec.ofInt_add (x := x.orig), BitVec.ofInt_neg, BitVec.ofInt_neg, BitVec.ofInt_toInt]
  rw [h1, h2, h3]
  congr 1; omega
theorem does_rDocsOpen : Does Tryz.prog 49 openDSpec := by
  refine does_of_awp good_nil Tryz.func49 rfl (by decide +kernel) (by decide +kernel) ?_
  rintro args h Q ⟨x, rfl, hq⟩
  refine ⟨by simp [Tryz.f49], ?_⟩
  rw [awpFunc_some (by rfl)]
  rw [← openD_ref] at hq
  simp only [dlAv, dlCells]
  simp -dsimp only [Vm.G, List.lookup, Nat.reduceAdd, Nat.reduceBEq, Int.reduceBNe, Int.reduceBEq, Nat.reduceLeDiff, q49]
  exact hq
def rDocsPutSpec : Vm.Spec := fun args h Q => ∃ (R : RId) (f : Fun) (d : Dc) (l : List Dl), d.ok ∧ (∀ x ∈ l, x.ok) ∧ args = [.ptr R.iv 0, .agg (dcCells d), .sl 4 (l.map dlAv)] ∧ isRef h R f ∧ f.n ≤ 536870900 ∧
  ∀ h', isRef h' R (docsPut f d l).1 → Same h h' (rFoot R) → Q (.tup [.v (.int .i64 (docsPut f d l).2.1), .v (.int .i64 (docsPut f d l).2.2)]) h'
set_option maxRecDepth 20000 in
set_option maxHeartbeats 2000000 in
theorem does_rDocsPut : Does Tryz.prog 42 rDocsPutSpec := by
  refine does_of_awp (good_cons does_rNext (good_cons does_rDl (good_cons does_rSet (good_cons does_rDc good_nil)))) Tryz.func42 rfl (by decide +kernel) (by decide +kernel) ?_
  rintro args h Q ⟨R, f, d, l, hd, hx, rfl, hR, hfn, hq⟩
  refine ⟨by simp [Tryz.f42], ?_⟩
  rw [awpFunc_some (by rfl)]
  unfold docsPut at hq
  simp only [dcCells]
  simp -dsimp only [Vm.G, List.lookup, Nat.reduceAdd, Nat.reduceBEq, Int.reduceBNe, Int.reduceBEq, Nat.reduceLeDiff, q42]
  have hd0 := Bool.eq_false_or_eq_true (decide ((l.length : Int) < 1))
  rcases hd0 with c0 | c0
  · have d0 := of_decide_eq_true c0
    simp only [if_pos (show l.length = 0 ∨ 6 < l.length from .inl (by omega))] at hq
    simp -dsimp only [Vm.G, List.lookup, Nat.reduceAdd, Nat.reduceBEq, Int.reduceBNe, Int.reduceBEq, Nat.reduceLeDiff, q42, c0]
    exact hq h hR (.refl _ _)
  · have d0 := of_decide_eq_false c0
    have hd6 := Bool.eq_false_or_eq_true (decide ((l.length : Int) > 6))
    rcases hd6 with c6 | c6
    · have d6 := of_decide_eq_true c6
      simp only [if_pos (show l.length = 0 ∨ 6 < l.length from .inr (by omega))] at hq
      simp -dsimp only [Vm.G, List.lookup, Nat.reduceAdd, Nat.reduceBEq, Int.reduceBNe, Int.reduceBEq, Nat.reduceLeDiff, q42, c0, c6]
      exact hq h hR (.refl _ _)
    · have d6 := of_decide_eq_false c6
      have hr := readOf_range f (seqKey 2)
      simp only [if_neg (show ¬ (l.length = 0 ∨ 6 < l.length) by omega)] at hq
      simp -dsimp only [Vm.G, List.lookup, Nat.reduceAdd, Nat.reduceBEq, Int.reduceBNe, Int.reduceBEq, Nat.reduceLeDiff, q42, c0, c6]
      refine call_one (S := rNextSpec) rfl _ GaL.rfl ⟨R, f, 2, rfl, hR, by omega, fun hr => ?_, fun hn h1 g1 g2 => ?_⟩
      · simp only [if_pos hr] at hq
        simp -dsimp only [Vm.G, List.lookup, Nat.reduceAdd, Nat.reduceBEq, Int.reduceBNe, Int.reduceBEq, Nat.reduceLeDiff, q42]
        exact hq h hR (.refl _ _)
      · simp only [if_neg hn] at hq
        unfold docsF at hq
        have hidr : I64 (readOf f (seqKey 2) + 1) := by unfold I64 at hr ⊢; omega
        have hf1 : (upd f (seqKey 2) (some (be 8 (readOf f (seqKey 2) + 1)))).n = f.n + 1 := rfl
        generalize readOf f (seqKey 2) + 1 = id at hq g1 hidr hf1 ⊢
        generalize upd f (seqKey 2) (some (be 8 id)) = f1 at hq g1 hf1
        simp -dsimp only [Vm.G, List.lookup, Nat.reduceAdd, Nat.reduceBEq, Int.reduceBNe, Int.reduceBEq, Nat.reduceLeDiff, q42]
        refine awp_loop (fun m s h' => ∃ (i : Nat) (g : Fun), i + m = l.length ∧ isRef h' R g ∧ g.n ≤ f.n + 1 + i ∧ Same h h' (rFoot R) ∧ putLines id i (l.drop i) g = putLines id 0 l f1 ∧ s = mk [(0, .ptr R.iv 0), (2, .sl 4 (l.map dlAv)), (4, .box [.v (.int .i64 d.id), .v (.int .i64 d.kind), .v (.int .i64 d.year), .v (.int .i64 d.frm), .v (.int .i64 d.lines)]), (8, .v (.int .i64 id)), (10, .v (.int .i64 (i : Nat)))])
          l.length _ (le_mk _ ?_) ⟨0, f1, by omega, g1, by omega, g2, rfl, rfl⟩ ?_
        · simp only [List.forall_mem_cons, List.not_mem_nil, false_imp_iff, implies_true, and_true]
          try simp -dsimp only [Vm.G, List.lookup, Nat.reduceAdd, Nat.reduceBEq, Int.reduceBNe, Int.reduceBEq, Nat.reduceLeDiff, q42]
          repeat' first | exact Fg.refl _ | exact Fg.nil _ _ _ (by decide) | refine And.intro ?_ ?_
        · clear g1 g2 hR
          rintro m s h' ⟨i, g, hi, hR, hgn, hsm, hp, rfl⟩
          simp -dsimp only [Vm.G, List.lookup, Nat.reduceAdd, Nat.reduceBEq, Int.reduceBNe, Int.reduceBEq, Nat.reduceLeDiff, q42]
          refine cond_intro (fun hcc => ?_) (fun hcc => ?_)
          · have hlt : i < l.length := by have := of_decide_eq_true hcc; omega
            have hw : IntKind.i64.wrap ((i : Int) + 1) = ((i + 1 : Nat) : Int) := by rw [wrap_i64 (by omega) (by omega)]; simp
            have hok := hx l[i] (List.getElem_mem hlt)
            rw [List.drop_eq_getElem_cons hlt] at hp
            simp -dsimp only [Vm.G, List.lookup, Nat.reduceAdd, Nat.reduceBEq, Int.reduceBNe, Int.reduceBEq, Nat.reduceLeDiff, q42]
            refine idx_map dlAv l i hlt ?_
            generalize l[i] = x at hok hp
            have hii : I64 (i : Int) := by unfold I64; omega
            have hun : (upd g (dlK id i) (some (dlV x))).n = g.n + 1 := rfl
            simp only [dlAv, dlCells]
            simp -dsimp only [Vm.G, List.lookup, Nat.reduceAdd, Nat.reduceBEq, Int.reduceBNe, Int.reduceBEq, Nat.reduceLeDiff, q42, AV.cells]
            refine call_one (S := rdlSpec) rfl _ GaL.rfl ⟨id, i, x, hidr, hii, hok, rfl, ?_⟩
            simp -dsimp only [Vm.G, List.lookup, Nat.reduceAdd, Nat.reduceBEq, Int.reduceBNe, Int.reduceBEq, Nat.reduceLeDiff, q42]
            refine call_one (S := rSetSpec) rfl _ GaL.rfl ⟨R, g, (dlK id i, dlV x), rfl, hR, by omega, fun h2 g1 g2 => ?_⟩
            rw [if_pos (right_dl id i x)] at g1
            simp -dsimp only [Vm.G, List.lookup, Nat.reduceAdd, Nat.reduceBEq, Int.reduceBNe, Int.reduceBEq, Nat.reduceLeDiff, q42]
            refine kept_intro ⟨l.length - (i + 1), by omega, _, le_mk [(0, .ptr R.iv 0), (2, .sl 4 (l.map dlAv)), (4, .box [.v (.int .i64 d.id), .v (.int .i64 d.kind), .v (.int .i64 d.year), .v (.int .i64 d.frm), .v (.int .i64 d.lines)]), (8, .v (.int .i64 id)), (10, .v (.int .i64 (i + 1 : Nat)))] ?_, i + 1, _, by omega, g1, by show (upd g (dlK id i) (some (dlV x))).n ≤ f.n + 1 + (i + 1); omega, hsm.trans g2, hp, rfl⟩
            simp only [List.forall_mem_cons, List.not_mem_nil, false_imp_iff, implies_true, and_true, hw]
            try simp -dsimp only [Vm.G, List.lookup, Nat.reduceAdd, Nat.reduceBEq, Int.reduceBNe, Int.reduceBEq, Nat.reduceLeDiff, q42, hw]
            repeat' first | exact Fg.refl _ | exact Fg.nil _ _ _ (by decide) | refine And.intro ?_ ?_
          · have hge : ¬ i < l.length := by have := of_decide_eq_false hcc; omega
            rw [List.drop_of_length_le (by omega)] at hp
            have hp : g = putLines id 0 l f1 := hp
            rw [← hp] at hq
            obtain ⟨o1, o2, o3, o4, o5⟩ := hd
            have hdok : ({ d with id := id, lines := (l.length : Int) } : Dc).ok := ⟨hidr, o2, o3, o4, by unfold I64; show -9223372036854775808 ≤ (l.length : Int) ∧ (l.length : Int) ≤ _; omega⟩
            simp -dsimp only [Vm.G, List.lookup, Nat.reduceAdd, Nat.reduceBEq, Int.reduceBNe, Int.reduceBEq, Nat.reduceLeDiff, q42]
            refine call_one (S := rdcSpec) rfl _ GaL.rfl ⟨{ d with id := id, lines := l.length }, hdok, rfl, ?_⟩
            simp -dsimp only [Vm.G, List.lookup, Nat.reduceAdd, Nat.reduceBEq, Int.reduceBNe, Int.reduceBEq, Nat.reduceLeDiff, q42]
            refine call_one (S := rSetSpec) rfl _ GaL.rfl ⟨R, g, (dcK id, dcV { d with id := id, lines := l.length }), rfl, hR, by omega, fun h2 g1 g2 => ?_⟩
            rw [if_pos (right_dc id _)] at g1
            simp -dsimp only [Vm.G, List.lookup, Nat.reduceAdd, Nat.reduceBEq, Int.reduceBNe, Int.reduceBEq, Nat.reduceLeDiff, q42]
            exact hq h2 g1 (hsm.trans g2)
end Go.Proofs.Lx
/- Encumbrances: plain laws and bounds. -/
set_option linter.unusedSimpArgs false
set_option linter.unusedVariables false
namespace Go.Proofs.Lx
open Go.Vm
attribute [local irreducible] awpArr awpBin awpMake awpAppend awpCvX awpStrOf awpBinX awpSlice awpBS awpStore awpAlloc awpCopy awpIndex awpDraw awpIdxX awpFa awpField awpLookup awpUpdate awpDelete awpClear awpRange awpNext awpEntry awpBuild awpClearS awpIdxL awpTree appB awpIdxO eltA treeA
theorem chargeRun_n (c : Chg) : ∀ (l : List Nd) (f : Fun) (w : Bool), (chargeRun c l f w).1.n ≤ f.n + l.length
  | [], f, w => Nat.le_refl _
  | n :: r, f, w => by
    unfold chargeRun
    split
    · exact Nat.le_add_right _ _
    · have := chargeRun_n c r (upd f (ndK (atOf c n).1) (some (ndV (atOf c n).1))) (w || (atOf c n).2.1)
      have e : (upd f (ndK (atOf c n).1) (some (ndV (atOf c n).1))).n = f.n + 1 := rfl
      rw [e] at this
      rw [List.length_cons]; omega
theorem chargeOf_n (f : Fun) (year id : Int) (c : Chg) : (chargeOf f year id c).1.n ≤ f.n + 8 := by
  unfold chargeOf
  split
  · exact Nat.le_add_right _ _
  · split
    · exact Nat.le_add_right _ _
    · have := chargeRun_n c (pathOf f year 8 id) f false
      have := pathOf_length f year 8 id
      omega
/-- Lines' nodes, charged: so much of each line. -/
def chargeG (mk : Dl → Chg) (year : Int) : List Dl → Fun → Bool → Fun × Bool × Int
  | [], f, w => (f, w, 0)
  | x :: r, f, w => if (chargeOf f year x.node (mk x)).2.2 ≠ 0 then ((chargeOf f year x.node (mk x)).1, false, (chargeOf f year x.node (mk x)).2.2)
    else chargeG mk year r (chargeOf f year x.node (mk x)).1 (w || (chargeOf f year x.node (mk x)).2.1)
theorem chargeG_cons (mk : Dl → Chg) (year : Int) (x : Dl) (r : List Dl) (f : Fun) (w : Bool) : chargeG mk year (x :: r) f w = if (chargeOf f year x.node (mk x)).2.2 ≠ 0 then ((chargeOf f year x.node (mk x)).1, false, (chargeOf f year x.node (mk x)).2.2)
    else chargeG mk year r (chargeOf f year x.node (mk x)).1 (w || (chargeOf f year x.node (mk x)).2.1) := rfl
theorem chargeL_G (year : Int) : ∀ (l : List Dl) (f : Fun) (w : Bool), chargeL year l f w = chargeG (fun x => ⟨x.orig, 0, 0⟩) year l f w
  | [], _, _ => rfl
  | x :: r, f, w => by
    rw [chargeL_cons, chargeG_cons, chargeL_G year r]
theorem chargeG_congr {mk mk' : Dl → Chg} (year : Int) : ∀ (l : List Dl) (f : Fun) (w : Bool), (∀ x ∈ l, mk x = mk' x) → chargeG mk year l f w = chargeG mk' year l f w
  | [], _, _, _ => rfl
  | x :: r, f, w, h => by
    rw [chargeG_cons, chargeG_cons, h x (List.mem_cons_self ..), chargeG_congr year r _ _ fun y hy => h y (List.mem_cons_of_mem _ hy)]
theorem chargeG_n (mk : Dl → Chg) (year : Int) : ∀ (l : List Dl) (f : Fun) (w : Bool), (chargeG mk year l f w).1.n ≤ f.n + 8 * l.length
  | [], f, w => Nat.le_refl _
  | x :: r, f, w => by
    have h1 := chargeOf_n f year x.node (mk x)
    rw [chargeG_cons]
    split
    · show (chargeOf f year x.node (mk x)).1.n ≤ _
      rw [List.length_cons]; omega
    · have := chargeG_n mk year r (chargeOf f year x.node (mk x)).1 (w || (chargeOf f year x.node (mk x)).2.1)
      rw [List.length_cons]; omega
theorem putLines_bound (id : Int) : ∀ (l : List Dl) (i : Nat) (f : Fun), (putLines id i l f).n = f.n + l.length
  | [], _, _ => rfl
  | x :: r, i, f => by
    show (putLines id (i + 1) r (upd f (dlK id i) (some (dlV x)))).n = _
    rw [putLines_bound id r (i + 1)]
    show f.n + 1 + r.length = f.n + (r.length + 1)
    omega
theorem docsPut_n (f : Fun) (d : Dc) (l : List Dl) : (docsPut f d l).1.n ≤ f.n + 8 := by
  unfold docsPut
  split
  · exact Nat.le_add_right _ _
  · split
    · exact Nat.le_add_right _ _
    · show (putLines _ 0 l (upd f (seqKey 2) _)).n + 1 ≤ _
      rw [putLines_bound]
      show f.n + 1 + l.length + 1 ≤ _
      omega
theorem preCheck_len {l : List Ln} (h : ¬ preCheck l ≠ 0) : l.length ≤ 6 := by
  unfold preCheck at h
  split at h
  · simp at h
  · rename_i h2; omega
theorem ownL_length (l : List Ln) : (ownL l).length = l.length := by unfold ownL; rw [List.length_map]
theorem preNew_n (f : Fun) (year : Int) (l : List Ln) : (preNew f year l).1.n ≤ f.n + 56 := by
  unfold preNew
  split
  · exact Nat.le_add_right _ _
  · split
    · exact Nat.le_add_right _ _
    · rename_i h1 h2
      have hl := preCheck_len h2
      have hc := chargeG_n (fun x => ⟨x.orig, 0, 0⟩) year (ownL l) f false
      rw [← chargeL_G, ownL_length] at hc
      split
      · show (chargeL year (ownL l) f false).1.n ≤ _
        omega
      · have hp := docsPut_n (chargeL year (ownL l) f false).1 ⟨0, 1, year, 0, 0⟩ (ownL l)
        show (docsPut (chargeL year (ownL l) f false).1 ⟨0, 1, year, 0, 0⟩ (ownL l)).1.n ≤ _
        omega
def ownAt (f : Fun) (frm : Int) : List Dl := match docAt f frm with
  | some (_, l) => l
  | none => []
def takeOne (f : Fun) (frm : Int) (x : Ln) : Fun × Dl × Int :=
  if x.node < 0 then (f, .zero, 7)
  else match (ownAt f frm)[x.node.toNat]? with
    | none => (f, .zero, 7)
    | some y => if openD y < x.amt then (f, .zero, 12)
      else (upd f (dlK frm x.node) (some (dlV { y with liq := w64 (y.liq + x.amt) })), ⟨y.node, x.amt, 0, 0⟩, 0)
def takeL (frm : Int) : List Ln → Fun → List Dl → Fun × List Dl × Int
  | [], f, out => (f, out, 0)
  | x :: r, f, out => if (takeOne f frm x).2.2 ≠ 0 then ((takeOne f frm x).1, [], (takeOne f frm x).2.2)
    else takeL frm r (takeOne f frm x).1 (out ++ [(takeOne f frm x).2.1])
theorem takeL_cons (frm : Int) (x : Ln) (r : List Ln) (f : Fun) (out : List Dl) : takeL frm (x :: r) f out = if (takeOne f frm x).2.2 ≠ 0 then ((takeOne f frm x).1, [], (takeOne f frm x).2.2)
    else takeL frm r (takeOne f frm x).1 (out ++ [(takeOne f frm x).2.1]) := rfl
def takeOf (f : Fun) (kind year frm : Int) (l : List Ln) : Fun × List Dl × Int := match docAt f frm with
  | none => (f, [], 7)
  | some (d, _) => if d.kind ≠ kind ∨ d.year ≠ year then (f, [], 12) else takeL frm l f []
theorem takeOne_n (f : Fun) (frm : Int) (x : Ln) : (takeOne f frm x).1.n ≤ f.n + 1 := by
  unfold takeOne
  split
  · exact Nat.le_succ _
  · split
    · exact Nat.le_succ _
    · split
      · exact Nat.le_succ _
      · exact Nat.le_refl _
theorem takeL_n (frm : Int) : ∀ (l : List Ln) (f : Fun) (out : List Dl), (takeL frm l f out).1.n ≤ f.n + l.length ∧ (takeL frm l f out).2.1.length ≤ out.length + l.length
  | [], f, out => ⟨Nat.le_refl _, Nat.le_refl _⟩
  | x :: r, f, out => by
    have h1 := takeOne_n f frm x
    rw [takeL_cons]
    split
    · exact ⟨by rw [List.length_cons]; show (takeOne f frm x).1.n ≤ _; omega, by simp⟩
    · have := takeL_n frm r (takeOne f frm x).1 (out ++ [(takeOne f frm x).2.1])
      rw [List.length_append] at this
      simp only [List.length_cons, List.length_nil] at this ⊢
      omega
theorem takeOf_n (f : Fun) (kind year frm : Int) (l : List Ln) : (takeOf f kind year frm l).1.n ≤ f.n + l.length ∧ (takeOf f kind year frm l).2.1.length ≤ l.length := by
  unfold takeOf
  split
  · exact ⟨Nat.le_add_right _ _, by simp⟩
  · split
    · exact ⟨Nat.le_add_right _ _, by simp⟩
    · have := takeL_n frm l f []
      simpa using this
/-- The lines of a new document, of one or of none. -/
def linesFrom (f : Fun) (year frm : Int) (l : List Ln) : Fun × List Dl × Int := if frm ≠ 0 then takeOf f 1 year frm l else (f, ownL l, 0)
theorem linesFrom_n (f : Fun) (year frm : Int) (l : List Ln) : (linesFrom f year frm l).1.n ≤ f.n + l.length ∧ (linesFrom f year frm l).2.1.length ≤ l.length := by
  unfold linesFrom
  split
  · exact takeOf_n f 1 year frm l
  · exact ⟨Nat.le_add_right _ _, by show (ownL l).length ≤ _; rw [ownL_length]; exact Nat.le_refl _⟩
def mkE (frm : Int) (x : Dl) : Chg := ⟨w64 (0 - (if frm ≠ 0 then x.orig else 0)), x.orig, 0⟩
/-- An encumbrance, made. -/
def encNew (f : Fun) (year frm : Int) (l : List Ln) : Fun × Int × Bool × Int :=
  if checkY f year ≠ 0 then (f, 0, false, checkY f year)
  else if preCheck l ≠ 0 then (f, 0, false, preCheck l)
  else if (linesFrom f year frm l).2.2 ≠ 0 then ((linesFrom f year frm l).1, 0, false, (linesFrom f year frm l).2.2)
  else if (chargeG (mkE frm) year (linesFrom f year frm l).2.1 (linesFrom f year frm l).1 false).2.2 ≠ 0 then ((chargeG (mkE frm) year (linesFrom f year frm l).2.1 (linesFrom f year frm l).1 false).1, 0, false, (chargeG (mkE frm) year (linesFrom f year frm l).2.1 (linesFrom f year frm l).1 false).2.2)
  else ((docsPut (chargeG (mkE frm) year (linesFrom f year frm l).2.1 (linesFrom f year frm l).1 false).1 ⟨0, 2, year, frm, 0⟩ (linesFrom f year frm l).2.1).1, (docsPut (chargeG (mkE frm) year (linesFrom f year frm l).2.1 (linesFrom f year frm l).1 false).1 ⟨0, 2, year, frm, 0⟩ (linesFrom f year frm l).2.1).2.1,
    (chargeG (mkE frm) year (linesFrom f year frm l).2.1 (linesFrom f year frm l).1 false).2.1 && ((docsPut (chargeG (mkE frm) year (linesFrom f year frm l).2.1 (linesFrom f year frm l).1 false).1 ⟨0, 2, year, frm, 0⟩ (linesFrom f year frm l).2.1).2.2 == 0),
    (docsPut (chargeG (mkE frm) year (linesFrom f year frm l).2.1 (linesFrom f year frm l).1 false).1 ⟨0, 2, year, frm, 0⟩ (linesFrom f year frm l).2.1).2.2)
theorem encNew_n (f : Fun) (year frm : Int) (l : List Ln) : (encNew f year frm l).1.n ≤ f.n + 62 := by
  unfold encNew
  split
  · exact Nat.le_add_right _ _
  · split
    · exact Nat.le_add_right _ _
    · rename_i h1 h2
      have hl := preCheck_len h2
      have h3 := linesFrom_n f year frm l
      generalize linesFrom f year frm l = q at h3 ⊢
      obtain ⟨qf, qo, qe⟩ := q
      simp only at h3 ⊢
      have hc := chargeG_n (mkE frm) year qo qf false
      generalize chargeG (mkE frm) year qo qf false = r at hc ⊢
      obtain ⟨rf, rw, re⟩ := r
      simp only at hc ⊢
      have hp := docsPut_n rf ⟨0, 2, year, frm, 0⟩ qo
      split
      · simp only; omega
      · split
        · simp only; omega
        · simp only; omega
theorem lineOf_ok {key val : List UInt8} {n : Dl} (h : lineOf key val = some n) : n.ok := by
  unfold lineOf at h
  cases hl : numsPair 76 2 4 key val with
  | none => rw [hl] at h; cases h
  | some l =>
    rw [hl] at h
    cases h
    have := numsPair_i64 hl
    exact ⟨i64_getD this 2, i64_getD this 3, i64_getD this 4, i64_getD this 5⟩
theorem lineAt_ok {f : Fun} {id i : Int} {x : Dl} (h : lineAt f id i = some x) : x.ok := by
  unfold lineAt at h
  cases h1 : f (dlK id i) with
  | none => rw [h1] at h; cases h
  | some v => rw [h1, Option.bind_some] at h; exact lineOf_ok h
theorem linesAt_ok {f : Fun} {id : Int} : ∀ {n : Nat} {l : List Dl}, linesAt f id n = some l → ∀ x ∈ l, x.ok
  | 0, l, h => by cases h; simp
  | n + 1, l, h => by
    unfold linesAt at h
    cases h1 : linesAt f id n with
    | none => rw [h1] at h; cases h
    | some l1 =>
      rw [h1] at h
      cases h2 : lineAt f id n with
      | none => rw [Option.bind_some, h2] at h; cases h
      | some x =>
        rw [Option.bind_some, h2] at h
        cases h
        intro y hy
        rcases List.mem_append.1 hy with hy | hy
        · exact linesAt_ok h1 y hy
        · rw [List.mem_singleton] at hy; subst hy; exact lineAt_ok h2
theorem docAt_ok {f : Fun} {id : Int} {d : Dc} {l : List Dl} (h : docAt f id = some (d, l)) : ∀ x ∈ l, x.ok := by
  unfold docAt at h
  cases h1 : docHead f id with
  | none => rw [h1] at h; cases h
  | some d1 =>
    rw [h1, Option.bind_some] at h
    cases h2 : linesAt f id d1.lines.toNat with
    | none => rw [h2] at h; cases h
    | some l1 =>
      rw [h2] at h
      cases h
      exact linesAt_ok h2
theorem ownAt_some {f : Fun} {id : Int} {d : Dc} {l : List Dl} (h : docAt f id = some (d, l)) : ownAt f id = l := by unfold ownAt; rw [h]
theorem ownAt_none {f : Fun} {id : Int} (h : docAt f id = none) : ownAt f id = [] := by unfold ownAt; rw [h]
theorem ownAt_ok (f : Fun) (id : Int) : ∀ x ∈ ownAt f id, x.ok := by
  unfold ownAt
  split
  · rename_i h; exact docAt_ok h
  · simp
theorem docsSet_own {f : Fun} {id i : Int} (x : Dl) (h0 : 0 ≤ i) (hi : i < (ownAt f id).length) : docsSet f id i x = (upd f (dlK id i) (some (dlV x)), 0) := by
  cases hd : docAt f id with
  | none =>
    rw [ownAt_none hd] at hi
    simp at hi
    omega
  | some p =>
    obtain ⟨d, l⟩ := p
    rw [ownAt_some hd] at hi
    unfold docsSet
    rw [hd]
    simp only
    rw [if_pos ⟨h0, hi⟩]
theorem Dl.zero_ok : Dl.zero.ok := by simp [Dl.ok, Dl.zero, I64]
theorem takeOne_ok (f : Fun) (frm : Int) (x : Ln) (hx : x.ok) : (takeOne f frm x).2.1.ok := by
  unfold takeOne
  split
  · exact Dl.zero_ok
  · split
    · exact Dl.zero_ok
    · rename_i y hy
      split
      · exact Dl.zero_ok
      · have hyo := ownAt_ok f frm y (List.mem_of_getElem? hy)
        have z : I64 0 := by unfold I64; omega
        exact ⟨hyo.1, hx.2.2.2, z, z⟩
theorem takeL_ok (frm : Int) : ∀ (l : List Ln) (f : Fun) (out : List Dl), (∀ x ∈ l, x.ok) → (∀ x ∈ out, x.ok) → ∀ x ∈ (takeL frm l f out).2.1, x.ok
  | [], _, _, _, h => h
  | x :: r, f, out, hl, ho => by
    rw [takeL_cons]
    split
    · simp
    · refine takeL_ok frm r _ _ (fun y hy => hl y (List.mem_cons_of_mem _ hy)) fun y hy => ?_
      rcases List.mem_append.1 hy with hy | hy
      · exact ho y hy
      · rw [List.mem_singleton] at hy; subst hy; exact takeOne_ok f frm x (hl x (List.mem_cons_self ..))
theorem takeOf_ok (f : Fun) (kind year frm : Int) (l : List Ln) (hl : ∀ x ∈ l, x.ok) : ∀ x ∈ (takeOf f kind year frm l).2.1, x.ok := by
  unfold takeOf
  split
  · simp
  · split
    · simp
    · exact takeL_ok frm l f [] hl (by simp)
theorem linesFrom_ok (f : Fun) (year frm : Int) (l : List Ln) (hl : ∀ x ∈ l, x.ok) : ∀ x ∈ (linesFrom f year frm l).2.1, x.ok := by
  unfold linesFrom
  split
  · exact takeOf_ok f 1 year frm l hl
  · exact ownL_ok hl
end Go.Proofs.Lx
