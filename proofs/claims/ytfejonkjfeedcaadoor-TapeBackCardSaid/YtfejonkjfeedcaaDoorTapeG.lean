/- Numbers out of bytes. -/
import Derived.Test.YtfejonkjfeedcaaDoorTapeF
set_option linter.unusedSimpArgs false
set_option linter.unusedVariables false
namespace Go.Proofs
open Go.Vm
attribute [local irreducible] awpMake awpAppend awpCvX awpStrOf awpBinX awpSlice awpBS awpStore awpAlloc awpCopy awpIndex awpDraw awpIdxX awpFa awpField

theorem cv5_79 (n : Int) (s' s : Slots) (K : AV → Slots → Prop) : awpCvX Tryd.prog 5 79 (.v (.int .u8 n), s') (.v (.int .u8 n)) (.v (.int .u8 n)) s K = K (.v (.int .u64 (IntKind.u64.wrap n))) s := cvi Tryd.underlying5 Tryd.underlying79 n s' s K
theorem cv79_3 (n : Int) (s' s : Slots) (K : AV → Slots → Prop) : awpCvX Tryd.prog 79 3 (.v (.int .u64 n), s') (.v (.int .u64 n)) (.v (.int .u64 n)) s K = K (.v (.int .i64 (IntKind.i64.wrap n))) s := cvi Tryd.underlying79 Tryd.underlying3 n s' s K
theorem cv5_3 (n : Int) (s' s : Slots) (K : AV → Slots → Prop) : awpCvX Tryd.prog 5 3 (.v (.int .u8 n), s') (.v (.int .u8 n)) (.v (.int .u8 n)) s K = K (.v (.int .i64 (IntKind.i64.wrap n))) s := cvi Tryd.underlying5 Tryd.underlying3 n s' s K

def getStep (x : BitVec 64) (c : UInt8) : BitVec 64 := (x <<< 8) ||| BitVec.ofNat 64 c.toNat
def getOf (l : List UInt8) : BitVec 64 := l.foldl getStep 0#64

theorem get_take (l : List UInt8) (i : Nat) (h : i < l.length) : getOf (l.take (i + 1)) = getStep (getOf (l.take i)) l[i] := by
  rw [getOf, List.take_succ_eq_append_getElem h, List.foldl_append]; rfl

theorem wrap_i64_toInt (n : Int) : IntKind.i64.wrap n = (BitVec.ofInt 64 n).toInt := by
  rw [BitVec.toInt_ofInt]
  simp only [IntKind.wrap, IntKind.bits, IntKind.signed, Int.bmod]
  simp
  split <;> split <;> omega

theorem shl64 (x : BitVec 64) : IntKind.u64.wrap ((x.toNat : Int) * 2 ^ 8) = ((x <<< 8).toNat : Int) := by
  rw [wrap_u64_mod, BitVec.toNat_shiftLeft, Nat.shiftLeft_eq]
  omega
theorem or64 (a b : BitVec 64) : Go.bits .or .u64 (a.toNat : Int) (b.toNat : Int) = ((a ||| b).toNat : Int) := by
  have h1 : BitVec.ofInt 64 (a.toNat : Int) = a := by rw [BitVec.ofInt_natCast]; simp
  have h2 : BitVec.ofInt 64 (b.toNat : Int) = b := by rw [BitVec.ofInt_natCast]; simp
  show IntKind.u64.wrap ((BitVec.ofInt 64 (a.toNat : Int) ||| BitVec.ofInt 64 (b.toNat : Int)).toNat : Int) = _
  rw [h1, h2]
  have := (a ||| b).isLt
  exact wrap_u64 (by omega) (by omega)
theorem u8_64 (b : UInt8) : IntKind.u64.wrap (b.toNat : Int) = ((BitVec.ofNat 64 b.toNat).toNat : Int) := by
  have := b.toNat_lt
  rw [wrap_u64 (by omega) (by omega), BitVec.toNat_ofNat, Nat.mod_eq_of_lt (by omega)]
theorem u64_i64 (x : BitVec 64) : IntKind.i64.wrap (x.toNat : Int) = x.toInt := by
  rw [wrap_i64_toInt, BitVec.ofInt_natCast]; simp

theorem shl_i64 (x : BitVec 64) : IntKind.i64.wrap (x.toInt * 2 ^ 8) = (x <<< 8).toInt := by
  rw [wrap_i64_toInt]
  congr 1
  rw [BitVec.ofInt_mul, BitVec.ofInt_toInt, BitVec.shiftLeft_eq_mul_twoPow]
  rfl
theorem or_i64 (a b : BitVec 64) : Go.bits .or .i64 a.toInt b.toInt = (a ||| b).toInt := by
  show IntKind.i64.wrap ((BitVec.ofInt 64 a.toInt ||| BitVec.ofInt 64 b.toInt).toNat : Int) = _
  rw [BitVec.ofInt_toInt, BitVec.ofInt_toInt, u64_i64]
theorem u8_i64 (b : UInt8) : IntKind.i64.wrap (b.toNat : Int) = (BitVec.ofNat 64 b.toNat).toInt := by
  rw [wrap_i64_toInt, BitVec.ofInt_natCast]

/-- A number out of bytes: what is wrong, or the number. -/
def getRes (l : List UInt8) (at_ size : Int) : List AV :=
  if !sized size || decide (at_ < 0) then [.v (.int .i64 0), .v (.int .i64 1)]
  else if at_ > l.length - size then [.v (.int .i64 0), .v (.int .i64 3)]
  else [.v (.int .i64 (getOf ((l.drop at_.toNat).take size.toNat)).toInt), .v (.int .i64 0)]
def getSpec : Vm.Spec := fun args h Q => ∃ (l : List UInt8) (at_ size : Int), l.length ≤ 4611686018427387904 ∧ at_ ≤ 9223372036854775807 ∧
  args = [.sl 1 (l.map encB), .v (.int .i64 at_), .v (.int .i64 size)] ∧ Q (.tup (getRes l at_ size)) h

def T11 : Tab := ext T10 13 bytesSpec
theorem good11 : Good T11 := good_ext good10 does_bytes

theorem does_get : Does Tryd.prog 50 getSpec := by
  refine does_of_awp good11 Tryd.func50 rfl (by decide +kernel) (by decide +kernel) ?_
  rintro args h Q ⟨l, at_, size, hl, hat, rfl, hq⟩
  refine ⟨by simp [Tryd.f50], ?_⟩
  rw [awpFunc_some (by rfl)]
  unfold getRes at hq
  simp -dsimp only [Vm.E, List.lookup, Nat.reduceAdd, Nat.reduceBEq]
  refine call_one (S := sizedSpec) rfl _ GaL.rfl ⟨_, rfl, ?_⟩
  simp -dsimp only [Vm.E, List.lookup, Nat.reduceAdd, Nat.reduceBEq]
  cases hs : sized size
  · simp -dsimp only [Vm.E, List.lookup, Nat.reduceAdd, Nat.reduceBEq, Bool.not_false, Tryd.results50]
    simpa [hs] using hq
  · have hk : ∃ k : Nat, k ≤ 8 ∧ 1 ≤ k ∧ size = k ∧ size.toNat = k := by
      rcases sized_cases hs with rfl | rfl | rfl | rfl
      · exact ⟨1, by decide, by decide, rfl, rfl⟩
      · exact ⟨2, by decide, by decide, rfl, rfl⟩
      · exact ⟨4, by decide, by decide, rfl, rfl⟩
      · exact ⟨8, by decide, by decide, rfl, rfl⟩
    obtain ⟨k, hk8, hk1, rfl, hk2⟩ := hk
    simp -dsimp only [Vm.E, List.lookup, Nat.reduceAdd, Nat.reduceBEq, Bool.not_true]
    cases h0 : decide (at_ < 0)
    · have h0' : ¬ at_ < 0 := of_decide_eq_false h0
      simp -dsimp only [Vm.E, List.lookup, Nat.reduceAdd, Nat.reduceBEq, Tryd.underlying22]
      cases h1 : decide ((l.length : Int) < (k : Int))
      · have h1' : ¬ (l.length : Int) < (k : Int) := of_decide_eq_false h1
        simp -dsimp only [Vm.E, List.lookup, Nat.reduceAdd, Nat.reduceBEq, Tryd.underlying22]
        rw [wrap_i64 (n := (l.length : Int) - k) (by omega) (by omega)]
        cases h2 : decide (at_ > (l.length : Int) - k)
        · have h2' : ¬ at_ > (l.length : Int) - k := of_decide_eq_false h2
          simp -dsimp only [Vm.E, List.lookup, Nat.reduceAdd, Nat.reduceBEq, Tryd.underlying22]
          rw [wrap_i64 (n := at_ + k) (by omega) (by omega)]
          refine slice_lh es22 (by omega) (by omega) (by simp; omega) ?_
          have hsl : ((l.map encB).take (at_ + k).toNat).drop at_.toNat = ((l.drop at_.toNat).take k).map encB := by
            rw [← List.map_take, ← List.map_drop, List.drop_take]
            congr 2
            omega
          rw [hsl]
          have hlen : ((l.drop at_.toNat).take k).length = k := by simp; omega
          generalize hb : (l.drop at_.toNat).take k = b at hsl hlen
          simp -dsimp only [Vm.E, List.lookup, Nat.reduceAdd, Nat.reduceBEq, Tryd.underlying22]
          refine awp_loop (fun n s h' => ∃ i, i + n = b.length ∧ h' = h ∧ s = mk [(8, .v (.int .u64 ((getOf (b.take i)).toNat : Int))), (35, .sl 1 (b.map encB)), (36, .v (.int .i64 b.length)), (37, .v (.int .i64 i))])
            b.length _ (le_mk _ ?_) ⟨0, by omega, rfl, rfl⟩ ?_
          · simp [init_get, getOf]
          · rintro n s h' ⟨i, hi, rfl, rfl⟩
            simp -dsimp only [Vm.E, List.lookup, Nat.reduceAdd, Nat.reduceBEq]
            refine cond_intro (fun hc => ?_) (fun hc => ?_)
            · have hlt : i < b.length := by have := of_decide_eq_true hc; omega
              simp -dsimp only [Vm.E, List.lookup, Nat.reduceAdd, Nat.reduceBEq, es22, as22]
              refine idx_bytes b i hlt ?_
              simp -dsimp only [Vm.E, List.lookup, Nat.reduceAdd, Nat.reduceBEq, of5]
              refine shl_intro (by decide) ?_
              rw [show min (Int.toNat 8) IntKind.u64.bits = 8 by decide, shl64]
              simp -dsimp only [Vm.E, List.lookup, Nat.reduceAdd, Nat.reduceBEq, cv5_79, u8_64, or64]
              refine kept_intro ⟨b.length - (i + 1), by omega, _, le_mk [(8, .v (.int .u64 ((getOf (b.take (i + 1))).toNat : Int))), (35, .sl 1 (b.map encB)), (36, .v (.int .i64 b.length)), (37, .v (.int .i64 (i + 1 : Nat)))] ?_, i + 1, by omega, rfl, rfl⟩
              simp only [List.forall_mem_cons, List.not_mem_nil, false_imp_iff, implies_true, and_true]
              simp -dsimp only [Vm.E, List.lookup, Nat.reduceAdd, Nat.reduceBEq]
              rw [get_take b i hlt, wrap_i64 (by omega) (by omega)]
              exact ⟨.refl _, .refl _, .refl _, .refl _⟩
            · have hge : ¬ i < b.length := by have := of_decide_eq_false hc; omega
              simp -dsimp only [Vm.E, List.lookup, Nat.reduceAdd, Nat.reduceBEq, cv79_3, u64_i64, Tryd.results50]
              rw [List.take_of_length_le (by omega)]
              simpa [hs, h0', h2', hk2, hb] using hq
        · have h2' : at_ > (l.length : Int) - k := of_decide_eq_true h2
          simp -dsimp only [Vm.E, List.lookup, Nat.reduceAdd, Nat.reduceBEq, Tryd.results50]
          simpa [hs, h0', h2'] using hq
      · have h1' : (l.length : Int) < (k : Int) := of_decide_eq_true h1
        have h2' : at_ > (l.length : Int) - k := by omega
        simp -dsimp only [Vm.E, List.lookup, Nat.reduceAdd, Nat.reduceBEq, Tryd.results50]
        simpa [hs, h0', h2'] using hq
    · have h0' : at_ < 0 := of_decide_eq_true h0
      simp -dsimp only [Vm.E, List.lookup, Nat.reduceAdd, Nat.reduceBEq, Tryd.results50]
      simpa [hs, h0'] using hq

theorem idx_at (l : List UInt8) (n : Int) (i : Nat) (hn : n = i) (hi : i < l.length) {e : Nat} {K : AV → Prop} (hK : K (.eptr [.v (.int .u8 l[i].toNat)])) : awpIdx (some (e, 1)) (.sl 1 (l.map encB)) (.v (.int .i64 n)) K := by
  subst hn; exact idx_bytes l i hi hK

theorem does_refGet : Does Tryd.prog 25 getSpec := by
  refine does_of_awp good11 Tryd.func25 rfl (by decide +kernel) (by decide +kernel) ?_
  rintro args h Q ⟨l, at_, size, hl, hat, rfl, hq⟩
  refine ⟨by simp [Tryd.f25], ?_⟩
  rw [awpFunc_some (by rfl)]
  unfold getRes at hq
  simp -dsimp only [Vm.E, List.lookup, Nat.reduceAdd, Nat.reduceBEq]
  refine call_one (S := sizedSpec) rfl _ GaL.rfl ⟨_, rfl, ?_⟩
  simp -dsimp only [Vm.E, List.lookup, Nat.reduceAdd, Nat.reduceBEq]
  cases hs : sized size
  · simp -dsimp only [Vm.E, List.lookup, Nat.reduceAdd, Nat.reduceBEq, Bool.not_false, Tryd.results25]
    simpa [hs] using hq
  · have hk : ∃ k : Nat, k ≤ 8 ∧ 1 ≤ k ∧ size = k ∧ size.toNat = k := by
      rcases sized_cases hs with rfl | rfl | rfl | rfl
      · exact ⟨1, by decide, by decide, rfl, rfl⟩
      · exact ⟨2, by decide, by decide, rfl, rfl⟩
      · exact ⟨4, by decide, by decide, rfl, rfl⟩
      · exact ⟨8, by decide, by decide, rfl, rfl⟩
    obtain ⟨k, hk8, hk1, rfl, hk2⟩ := hk
    simp -dsimp only [Vm.E, List.lookup, Nat.reduceAdd, Nat.reduceBEq, Bool.not_true]
    cases h0 : decide (at_ < 0)
    · have h0' : ¬ at_ < 0 := of_decide_eq_false h0
      simp -dsimp only [Vm.E, List.lookup, Nat.reduceAdd, Nat.reduceBEq, Tryd.underlying22]
      rw [wrap_i64 (n := (l.length : Int) - k) (by omega) (by omega)]
      refine cond_intro (fun h2 => ?_) (fun h2 => ?_)
      · have h2' : at_ > (l.length : Int) - k := of_decide_eq_true h2
        simp -dsimp only [Vm.E, List.lookup, Nat.reduceAdd, Nat.reduceBEq, Tryd.results25]
        simpa [hs, h0', h2'] using hq
      · have h2' : ¬ at_ > (l.length : Int) - k := of_decide_eq_false h2
        simp -dsimp only [Vm.E, List.lookup, Nat.reduceAdd, Nat.reduceBEq]
        have hlen : ((l.drop at_.toNat).take k).length = k := by simp; omega
        obtain ⟨p, hp⟩ : ∃ p : Nat, at_ = p := ⟨at_.toNat, by omega⟩
        subst hp
        rw [Int.toNat_natCast] at hlen
        have hget : ∀ i (h : i < ((l.drop p).take k).length) (h2 : p + i < l.length), ((l.drop p).take k)[i] = l[p + i] := fun i h h2 => by simp
        generalize hb : (l.drop p).take k = b at hlen hget
        refine awp_loop (fun n s h' => ∃ i : Nat, i + n = k ∧ h' = h ∧ s = mk [(0, .sl 1 (l.map encB)), (1, .v (.int .i64 p)), (2, .v (.int .i64 k)), (8, .v (.int .i64 (getOf (b.take i)).toInt)), (9, .v (.int .i64 i))])
          k _ (le_mk _ ?_) ⟨0, by omega, rfl, rfl⟩ ?_
        · simp [init_get, getOf]
        · rintro n s h' ⟨i, hi, rfl, rfl⟩
          simp -dsimp only [Vm.E, List.lookup, Nat.reduceAdd, Nat.reduceBEq]
          refine cond_intro (fun hc => ?_) (fun hc => ?_)
          · have hlt : i < k := by have := of_decide_eq_true hc; omega
            simp -dsimp only [Vm.E, List.lookup, Nat.reduceAdd, Nat.reduceBEq]
            refine shl_intro (by decide) ?_
            rw [show min (Int.toNat 8) IntKind.i64.bits = 8 by decide, shl_i64]
            simp -dsimp only [Vm.E, List.lookup, Nat.reduceAdd, Nat.reduceBEq, es22, as22]
            refine idx_at l _ (p + i) (by rw [wrap_i64 (by omega) (by omega)]; omega) (by omega) ?_
            simp -dsimp only [Vm.E, List.lookup, Nat.reduceAdd, Nat.reduceBEq, of5, cv5_3, u8_i64, or_i64]
            refine kept_intro ⟨k - (i + 1), by omega, _, le_mk [(0, .sl 1 (l.map encB)), (1, .v (.int .i64 p)), (2, .v (.int .i64 k)), (8, .v (.int .i64 (getOf (b.take (i + 1))).toInt)), (9, .v (.int .i64 (i + 1 : Nat)))] ?_, i + 1, by omega, rfl, rfl⟩
            simp only [List.forall_mem_cons, List.not_mem_nil, false_imp_iff, implies_true, and_true]
            simp -dsimp only [Vm.E, List.lookup, Nat.reduceAdd, Nat.reduceBEq]
            rw [get_take b i (by omega), hget i (by omega) (by omega), wrap_i64 (by omega) (by omega)]
            exact ⟨.refl _, .refl _, .refl _, .refl _, .refl _⟩
          · have hge : ¬ i < k := by have := of_decide_eq_false hc; omega
            simp -dsimp only [Vm.E, List.lookup, Nat.reduceAdd, Nat.reduceBEq, Tryd.results25]
            rw [List.take_of_length_le (by omega)]
            simpa [hs, h0', h2', hk2, hb] using hq
    · have h0' : at_ < 0 := of_decide_eq_true h0
      simp -dsimp only [Vm.E, List.lookup, Nat.reduceAdd, Nat.reduceBEq, Tryd.results25]
      simpa [hs, h0'] using hq

end Go.Proofs
