/- Numbers as bytes, and bytes: the program's functions, by their contracts. -/
import Derived.Test.YthfbpdipilajoaaGreatDoorTF
set_option linter.unusedSimpArgs false
set_option linter.unusedVariables false
namespace Go.Proofs.Lx
open Go.Vm
theorem idx_bytes (l : List UInt8) (i : Nat) (hi : i < l.length) {e : Nat} {K : AV → Prop} (hK : K (.eptr [.v (.int .u8 l[i].toNat)])) : awpIdx (some (e, 1)) (.sl 1 (l.map encB)) (.v (.int .i64 i)) K := by
  refine idx_intro (xs := l.map encB) (by simp [asSl]) (by simp; omega) (fun x hx => ?_)
  have hx' : x = encB l[i] := by simp [hi] at hx; exact hx.symm
  subst hx'; exact hK

abbrev Tab := FuncId → Option Vm.Spec
def Good (T : Tab) : Prop := ∀ f S, T f = some S → Does Tryz.prog f S
def tab (l : List (FuncId × Vm.Spec)) : Tab := fun f => l.lookup f
theorem good_nil : Good (tab []) := fun f S h => by cases h
theorem good_cons {l : List (FuncId × Vm.Spec)} {g : FuncId} {S : Vm.Spec} (hd : Does Tryz.prog g S) (h : Good (tab l)) : Good (tab ((g, S) :: l)) := fun f S' hf => by
  unfold tab at hf
  simp only [List.lookup] at hf
  split at hf
  · rename_i e
    have : f = g := by simpa using e
    subst this; cases hf; exact hd
  · exact h f S' hf

attribute [local irreducible] awpMake awpAppend awpCvX awpStrOf awpBinX awpSlice awpBS awpStore awpAlloc awpCopy awpIndex awpDraw awpIdxX awpFa awpField awpLookup awpUpdate awpDelete awpClear awpRange awpNext awpEntry awpBuild

/-! Sizes. -/
def sized (n : Int) : Bool := n == 1 || n == 2 || n == 4 || n == 8
def sizedSpec : Vm.Spec := fun args h Q => ∃ n : Int, args = [.v (.int .i64 n)] ∧ Q (.v (.bool (sized n))) h

theorem does_sized : Does Tryz.prog 206 sizedSpec := by
  refine does_of_awp good_nil Tryz.func206 rfl (by decide +kernel) (by decide +kernel) ?_
  rintro args h Q ⟨n, rfl, hq⟩
  refine ⟨by simp [Tryz.f206], ?_⟩
  rw [awpFunc_some (by rfl)]
  unfold sized at hq
  simp -dsimp only [Vm.E, List.lookup, Nat.reduceAdd, Nat.reduceBEq, Int.reduceBNe, Int.reduceBEq, Bool.true_beq, Bool.false_beq]
  cases h1 : (n == 1)
  · simp -dsimp only [Vm.E, List.lookup, Nat.reduceAdd, Nat.reduceBEq, Int.reduceBNe, Int.reduceBEq, Bool.true_beq, Bool.false_beq, h1]
    cases h2 : (n == 2)
    · simp -dsimp only [Vm.E, List.lookup, Nat.reduceAdd, Nat.reduceBEq, Int.reduceBNe, Int.reduceBEq, Bool.true_beq, Bool.false_beq, h2]
      cases h4 : (n == 4)
      · simp -dsimp only [Vm.E, List.lookup, Nat.reduceAdd, Nat.reduceBEq, Int.reduceBNe, Int.reduceBEq, Bool.true_beq, Bool.false_beq, h4]
        cases h8 : (n == 8)
        · simp -dsimp only [Vm.E, List.lookup, Nat.reduceAdd, Nat.reduceBEq, Int.reduceBNe, Int.reduceBEq, Bool.true_beq, Bool.false_beq, h8, Tryz.results206]
          simpa [h1, h2, h4, h8] using hq
        · simp -dsimp only [Vm.E, List.lookup, Nat.reduceAdd, Nat.reduceBEq, Int.reduceBNe, Int.reduceBEq, Bool.true_beq, Bool.false_beq, h8, Tryz.results206]
          simpa [h1, h2, h4, h8] using hq
      · simp -dsimp only [Vm.E, List.lookup, Nat.reduceAdd, Nat.reduceBEq, Int.reduceBNe, Int.reduceBEq, Bool.true_beq, Bool.false_beq, h4, Tryz.results206]
        simpa [h1, h2, h4] using hq
    · simp -dsimp only [Vm.E, List.lookup, Nat.reduceAdd, Nat.reduceBEq, Int.reduceBNe, Int.reduceBEq, Bool.true_beq, Bool.false_beq, h2, Tryz.results206]
      simpa [h1, h2] using hq
  · simp -dsimp only [Vm.E, List.lookup, Nat.reduceAdd, Nat.reduceBEq, Int.reduceBNe, Int.reduceBEq, Bool.true_beq, Bool.false_beq, h1, Tryz.results206]
    simpa [h1] using hq

/-! What may stand in so many bytes. -/
def fits (n size : Int) : Bool := size == 8 || (sized size && decide (0 ≤ n) && decide (n < 256 ^ size.toNat))
def rightSpec : Vm.Spec := fun args h Q => ∃ n size : Int, -9223372036854775808 ≤ n ∧ n ≤ 9223372036854775807 ∧ args = [.v (.int .i64 n), .v (.int .i64 size)] ∧ Q (.v (.bool (fits n size))) h

theorem sized_cases {size : Int} (h : sized size = true) : size = 1 ∨ size = 2 ∨ size = 4 ∨ size = 8 := by
  simp only [sized, Bool.or_eq_true, beq_iff_eq] at h
  omega

theorem does_right : Does Tryz.prog 203 rightSpec := by
  refine does_of_awp (good_cons does_sized good_nil) Tryz.func203 rfl (by decide +kernel) (by decide +kernel) ?_
  rintro args h Q ⟨n, size, hn0, hn1, rfl, hq⟩
  refine ⟨by simp [Tryz.f203], ?_⟩
  rw [awpFunc_some (by rfl)]
  unfold fits at hq
  simp -dsimp only [Vm.E, List.lookup, Nat.reduceAdd, Nat.reduceBEq, Int.reduceBNe, Int.reduceBEq, Bool.true_beq, Bool.false_beq]
  cases h8 : (size == 8)
  · simp -dsimp only [Vm.E, List.lookup, Nat.reduceAdd, Nat.reduceBEq, Int.reduceBNe, Int.reduceBEq, Bool.true_beq, Bool.false_beq, h8]
    refine call_one (S := sizedSpec) rfl _ GaL.rfl ⟨_, rfl, ?_⟩
    simp -dsimp only [Vm.E, List.lookup, Nat.reduceAdd, Nat.reduceBEq, Int.reduceBNe, Int.reduceBEq, Bool.true_beq, Bool.false_beq]
    cases hs : sized size
    · simp -dsimp only [Vm.E, List.lookup, Nat.reduceAdd, Nat.reduceBEq, Int.reduceBNe, Int.reduceBEq, Bool.true_beq, Bool.false_beq, Tryz.results203]
      simpa [h8, hs] using hq
    · simp -dsimp only [Vm.E, List.lookup, Nat.reduceAdd, Nat.reduceBEq, Int.reduceBNe, Int.reduceBEq, Bool.true_beq, Bool.false_beq]
      cases h0 : decide (n ≥ 0)
      · simp -dsimp only [Vm.E, List.lookup, Nat.reduceAdd, Nat.reduceBEq, Int.reduceBNe, Int.reduceBEq, Bool.true_beq, Bool.false_beq, Tryz.results203]
        have : ¬ 0 ≤ n := by have := of_decide_eq_false h0; omega
        simpa [h8, hs, this] using hq
      · have h0' : 0 ≤ n := by have := of_decide_eq_true h0; omega
        simp -dsimp only [Vm.E, List.lookup, Nat.reduceAdd, Nat.reduceBEq, Int.reduceBNe, Int.reduceBEq, Bool.true_beq, Bool.false_beq]
        rcases sized_cases hs with rfl | rfl | rfl | rfl
        · refine shr_intro (by decide) ?_
          simp -dsimp only [Vm.E, List.lookup, Nat.reduceAdd, Nat.reduceBEq, Int.reduceBNe, Int.reduceBEq, Bool.true_beq, Bool.false_beq, Tryz.results203]
          have : ((n.fdiv (2 ^ min (IntKind.i64.wrap (8 * 1)).toNat IntKind.i64.bits)) == 0) = decide (n < 256) := by
            rw [show (2 : Int) ^ min (IntKind.i64.wrap (8 * 1)).toNat IntKind.i64.bits = 256 by decide, Int.fdiv_eq_ediv_of_nonneg _ (by decide)]
            by_cases hlt : n < 256
            · simp only [hlt, decide_true, beq_iff_eq]; omega
            · simp only [hlt, decide_false, beq_eq_false_iff_ne]; omega
          rw [this]
          simpa [hs, h0'] using hq
        · refine shr_intro (by decide) ?_
          simp -dsimp only [Vm.E, List.lookup, Nat.reduceAdd, Nat.reduceBEq, Int.reduceBNe, Int.reduceBEq, Bool.true_beq, Bool.false_beq, Tryz.results203]
          have : ((n.fdiv (2 ^ min (IntKind.i64.wrap (8 * 2)).toNat IntKind.i64.bits)) == 0) = decide (n < 65536) := by
            rw [show (2 : Int) ^ min (IntKind.i64.wrap (8 * 2)).toNat IntKind.i64.bits = 65536 by decide, Int.fdiv_eq_ediv_of_nonneg _ (by decide)]
            by_cases hlt : n < 65536
            · simp only [hlt, decide_true, beq_iff_eq]; omega
            · simp only [hlt, decide_false, beq_eq_false_iff_ne]; omega
          rw [this]
          simpa [hs, h0'] using hq
        · refine shr_intro (by decide) ?_
          simp -dsimp only [Vm.E, List.lookup, Nat.reduceAdd, Nat.reduceBEq, Int.reduceBNe, Int.reduceBEq, Bool.true_beq, Bool.false_beq, Tryz.results203]
          have : ((n.fdiv (2 ^ min (IntKind.i64.wrap (8 * 4)).toNat IntKind.i64.bits)) == 0) = decide (n < 4294967296) := by
            rw [show (2 : Int) ^ min (IntKind.i64.wrap (8 * 4)).toNat IntKind.i64.bits = 4294967296 by decide, Int.fdiv_eq_ediv_of_nonneg _ (by decide)]
            by_cases hlt : n < 4294967296
            · simp only [hlt, decide_true, beq_iff_eq]; omega
            · simp only [hlt, decide_false, beq_eq_false_iff_ne]; omega
          rw [this]
          simpa [hs, h0'] using hq
        · cases h8
  · simp -dsimp only [Vm.E, List.lookup, Nat.reduceAdd, Nat.reduceBEq, Int.reduceBNe, Int.reduceBEq, Bool.true_beq, Bool.false_beq, h8, Tryz.results203]
    simpa [h8] using hq
/-- A number's last bytes, the greatest first. -/
def byteOf (n : Int) (j : Nat) : UInt8 := UInt8.ofNat ((n / 2 ^ (8 * j)) % 256).toNat
def be (size : Nat) (n : Int) : List UInt8 := (List.range size).map fun i => byteOf n (size - 1 - i)

theorem byteOf_nat (n : Int) (j : Nat) : ((byteOf n j).toNat : Int) = (n / 2 ^ (8 * j)) % 256 := by
  unfold byteOf
  have h0 := Int.emod_nonneg (n / 2 ^ (8 * j)) (show (256 : Int) ≠ 0 by decide)
  have h1 := Int.emod_lt_of_pos (n / 2 ^ (8 * j)) (show (0 : Int) < 256 by decide)
  rw [UInt8.toNat_ofNat']
  omega

theorem wrap_u8_mod (n : Int) : IntKind.u8.wrap n = n % 256 := by simp [IntKind.wrap, IntKind.bits, IntKind.signed]
theorem wrap_u64_mod (n : Int) : IntKind.u64.wrap n = n % 18446744073709551616 := by simp [IntKind.wrap, IntKind.bits, IntKind.signed]

theorem byte_put (n : Int) (j : Nat) (hj : j ≤ 7) : IntKind.u8.wrap ((IntKind.u64.wrap n).fdiv (2 ^ min (((8 * j : Nat) : Int)).toNat IntKind.u64.bits)) = ((byteOf n j).toNat : Int) := by
  rw [byteOf_nat, wrap_u8_mod, wrap_u64_mod, Int.toNat_natCast]
  have hm : min (8 * j) IntKind.u64.bits = 8 * j := by simp [IntKind.bits]; omega
  rw [hm]
  have : j = 0 ∨ j = 1 ∨ j = 2 ∨ j = 3 ∨ j = 4 ∨ j = 5 ∨ j = 6 ∨ j = 7 := by omega
  rcases this with rfl | rfl | rfl | rfl | rfl | rfl | rfl | rfl <;>
    (rw [Int.fdiv_eq_ediv_of_nonneg _ (by decide)]; simp only [Nat.reduceMul, Int.reducePow]; omega)
theorem byte_refPut (n : Int) (j : Nat) (hj : j ≤ 7) : IntKind.u8.wrap (n.fdiv (2 ^ min (((8 * j : Nat) : Int)).toNat IntKind.i64.bits)) = ((byteOf n j).toNat : Int) := by
  rw [byteOf_nat, wrap_u8_mod, Int.toNat_natCast]
  have hm : min (8 * j) IntKind.i64.bits = 8 * j := by simp [IntKind.bits]; omega
  rw [hm, Int.fdiv_eq_ediv_of_nonneg _ (by have e : (2 : Int) ^ (8 * j) = ((2 ^ (8 * j) : Nat) : Int) := by simp
                                           rw [e]; exact Int.natCast_nonneg _)]

theorem be_take {size : Nat} {n : Int} {k : Nat} (hk : k < size) : (be size n).take (k + 1) = (be size n).take k ++ [byteOf n (size - 1 - k)] := by
  rw [List.take_succ_eq_append_getElem (by simp [be]; exact hk)]
  simp [be]

def putOf (l : List UInt8) (n size : Int) : List UInt8 := if fits n size then l ++ be size.toNat n else l
def putSpec : Vm.Spec := fun args h Q => ∃ (l : List UInt8) (n size : Int), l.length + 8 ≤ 70368744177664 ∧ -9223372036854775808 ≤ n ∧ n ≤ 9223372036854775807 ∧
  args = [.sl 1 (l.map encB), .v (.int .i64 n), .v (.int .i64 size)] ∧ Q (.own true 5 1 ((putOf l n size).map encB)) h

theorem fits_sized {n size : Int} (h : fits n size = true) : sized size = true := by
  simp only [fits, Bool.or_eq_true, Bool.and_eq_true] at h
  rcases h with h | h
  · simp [sized, h]
  · exact h.1.1

theorem encs (l : List UInt8) (b : UInt8) : l.map encB ++ [encB b] = (l ++ [b]).map encB := by simp

theorem plain0 : plain (Value.int IntKind.u8 0) = true ∨ ∃ cs, Value.int IntKind.u8 0 = Value.agg cs ∧ cs.all plain = true := .inl rfl
theorem mk45 (n : Nat) (KK : AV → Prop) (hn : n + 8 ≤ 70368744177664) (hk : KK (.own true 5 1 (List.replicate n (.v (.int .u8 0))))) : awpMake Tryz.prog 45 (.v (.int .i64 n)) (.v (.int .i64 ((n + 8 : Nat) : Int))) KK := by
  have h1 : (n : Int) ≤ ((n + 8 : Nat) : Int) := by omega
  have h2 : ((n + 8 : Nat) : Int) ≤ 9223372036854775807 := by omega
  have h3 : ((n + 8 : Nat) : Int) * ((1 : Nat) : Int) ≤ 140737488355328 := by omega
  have a3 := @make_intro Tryz.prog 45 5 1 1 .i64 .i64 (n : Int) ((n + 8 : Nat) : Int) (.int .u8 0) KK ei45 z5 plain0 (Int.natCast_nonneg n) h1 h2 h3
  rw [Int.toNat_natCast, cst_int] at a3
  exact a3 hk

theorem does_put : Does Tryz.prog 159 putSpec := by
  refine does_of_awp (good_cons does_right good_nil) Tryz.func159 rfl (by decide +kernel) (by decide +kernel) ?_
  rintro args h Q ⟨l, n, size, hl, hn0, hn1, rfl, hq⟩
  refine ⟨by simp [Tryz.f159], ?_⟩
  rw [awpFunc_some (by rfl)]
  simp -dsimp only [Vm.E, List.lookup, Nat.reduceAdd, Nat.reduceBEq, Int.reduceBNe, Int.reduceBEq, Bool.true_beq, Bool.false_beq, Tryz.underlying45]
  have e8 : IntKind.i64.wrap ((l.length : Int) + 8) = ((l.length + 8 : Nat) : Int) := by rw [wrap_i64 (by omega) (by omega)]; simp
  rw [e8]
  refine mk45 l.length _ hl ?_
  simp -dsimp only [Vm.E, List.lookup, Nat.reduceAdd, Nat.reduceBEq, Int.reduceBNe, Int.reduceBEq, Bool.true_beq, Bool.false_beq, awpCopy_some es45]
  have e9 : (l.map encB).take (List.replicate l.length (AV.v (.int .u8 0))).length ++ (List.replicate l.length (AV.v (.int .u8 0))).drop l.length = l.map encB := by
    rw [List.length_replicate, List.take_of_length_le (by simp), List.drop_eq_nil_of_le (by simp), List.append_nil]
  rw [e9]
  refine call_one (S := rightSpec) rfl _ GaL.rfl ⟨n, size, hn0, hn1, rfl, ?_⟩
  simp -dsimp only [Vm.E, List.lookup, Nat.reduceAdd, Nat.reduceBEq, Int.reduceBNe, Int.reduceBEq, Bool.true_beq, Bool.false_beq]
  unfold putOf at hq
  cases hf : fits n size
  · simp -dsimp only [Vm.E, List.lookup, Nat.reduceAdd, Nat.reduceBEq, Int.reduceBNe, Int.reduceBEq, Bool.true_beq, Bool.false_beq, Bool.not_false, Tryz.results159]
    simpa [hf] using hq
  · have hk : ∃ k : Nat, k ≤ 8 ∧ 1 ≤ k ∧ size = k ∧ size.toNat = k := by
      rcases sized_cases (fits_sized hf) with rfl | rfl | rfl | rfl
      · exact ⟨1, by decide, by decide, rfl, rfl⟩
      · exact ⟨2, by decide, by decide, rfl, rfl⟩
      · exact ⟨4, by decide, by decide, rfl, rfl⟩
      · exact ⟨8, by decide, by decide, rfl, rfl⟩
    obtain ⟨k, hk8, hk1, rfl, hk2⟩ := hk
    rw [hf, if_pos rfl, hk2] at hq
    simp -dsimp only [Vm.E, List.lookup, Nat.reduceAdd, Nat.reduceBEq, Int.reduceBNe, Int.reduceBEq, Bool.true_beq, Bool.false_beq, Bool.not_true]
    have e1 : IntKind.i64.wrap (8 * IntKind.i64.wrap ((k : Int) - 1)) = 8 * ((k : Int) - 1 - 0) := by
      rw [wrap_i64 (n := (k : Int) - 1) (by omega) (by omega), wrap_i64 (by omega) (by omega)]; omega
    rw [e1]
    refine awp_loop (fun m s h' => ∃ i : Nat, i + m = k ∧ h' = h ∧ s = mk [(1, .v (.int .i64 n)), (7, .own true 5 1 ((l ++ (be k n).take i).map encB)), (8, .v (.int .i64 (8 * ((k : Int) - 1 - i))))])
      k _ (le_mk _ ?_) ⟨0, by omega, rfl, rfl⟩ ?_
    · simp [init_get]
    · rintro m s h' ⟨i, hi, rfl, rfl⟩
      simp -dsimp only [Vm.E, List.lookup, Nat.reduceAdd, Nat.reduceBEq, Int.reduceBNe, Int.reduceBEq, Bool.true_beq, Bool.false_beq]
      refine cond_intro (fun hc => ?_) (fun hc => ?_)
      · have hlt : i < k := by have := of_decide_eq_true hc; omega
        have ej : 8 * ((k : Int) - 1 - i) = ((8 * (k - 1 - i) : Nat) : Int) := by omega
        simp -dsimp only [Vm.E, List.lookup, Nat.reduceAdd, Nat.reduceBEq, Int.reduceBNe, Int.reduceBEq, Bool.true_beq, Bool.false_beq, cv3_233]
        refine shr_intro (by omega) ?_
        rw [ej]
        simp -dsimp only [Vm.E, List.lookup, Nat.reduceAdd, Nat.reduceBEq, Int.reduceBNe, Int.reduceBEq, Bool.true_beq, Bool.false_beq, cv233_5, byte_put n (k - 1 - i) (by omega), es45]
        refine bs_intro zr5 (by decide) (by decide) rfl rfl (by simp [solid, AV.cells]) ?_
        simp -dsimp only [Vm.E, List.lookup, Nat.reduceAdd, Nat.reduceBEq, Int.reduceBNe, Int.reduceBEq, Bool.true_beq, Bool.false_beq, append_own ei45]
        refine app_sl Tryz.underlying45 (by simp [AV.cells]) ?_ ?_
        · have : ((be k n).take i).length ≤ i := by simp only [List.length_take]; omega
          simp only [List.length_map, List.length_append, List.length_cons, List.length_nil]
          omega
        simp -dsimp only [Vm.E, List.lookup, Nat.reduceAdd, Nat.reduceBEq, Int.reduceBNe, Int.reduceBEq, Bool.true_beq, Bool.false_beq]
        refine kept_intro ⟨k - (i + 1), by omega, _, le_mk [(1, .v (.int .i64 n)), (7, .own true 5 1 ((l ++ (be k n).take (i + 1)).map encB)), (8, .v (.int .i64 (8 * ((k : Int) - 1 - (i + 1 : Nat)))))] ?_, i + 1, by omega, rfl, rfl⟩
        simp only [List.forall_mem_cons, List.not_mem_nil, false_imp_iff, implies_true, and_true]
        simp -dsimp only [Vm.E, List.lookup, Nat.reduceAdd, Nat.reduceBEq, Int.reduceBNe, Int.reduceBEq, Bool.true_beq, Bool.false_beq]
        rw [wrap_i64 (by omega) (by omega), be_take hlt]
        have e2 : ((8 * (k - 1 - i) : Nat) : Int) - 8 = 8 * ((k : Int) - 1 - (i + 1 : Nat)) := by omega
        rw [e2]
        have e3 : (l ++ (be k n).take i).map encB ++ [AV.v (.int .u8 ((byteOf n (k - 1 - i)).toNat : Int))] = (l ++ ((be k n).take i ++ [byteOf n (k - 1 - i)])).map encB := by simp [encB]
        rw [e3]
        exact ⟨.refl _, .refl _, .refl _⟩
      · have hge : ¬ i < k := by have := of_decide_eq_false hc; omega
        simp -dsimp only [Vm.E, List.lookup, Nat.reduceAdd, Nat.reduceBEq, Int.reduceBNe, Int.reduceBEq, Bool.true_beq, Bool.false_beq, Tryz.results159]
        have : i = k := by omega
        subst this
        rw [List.take_of_length_le (by simp [be])]
        exact hq

theorem str_eql (P : Program) (t : TypeId) (a b : ByteArray) (KV : Value → Prop) : awpBin P .eql t (.v (.string a)) (.v (.string b)) KV = KV (.bool (a.toList == b.toList)) := id rfl
theorem str_neq (P : Program) (t : TypeId) (a b : ByteArray) (KV : Value → Prop) : awpBin P .neq t (.v (.string a)) (.v (.string b)) KV = KV (.bool (!(a.toList == b.toList))) := id rfl
theorem toList_mk (l : List UInt8) : (ByteArray.mk l.toArray).toList = l := by rw [ByteArray.toList_eq]
theorem cs45 (p : AV × Slots) (lk x : AV) (s : Slots) (K : AV → Slots → Prop) : awpCvX Tryz.prog 45 9 p lk x s K = awpStrOf Tryz.prog 45 lk (hid (fun v => K v s) .mk) := cvX_str Tryz.underlying9 p lk x s K

def equalSpec : Vm.Spec := fun args h Q => ∃ a b : List UInt8, args = [.sl 1 (a.map encB), .sl 1 (b.map encB)] ∧ Q (.v (.bool (a == b))) h

theorem does_equal : Does Tryz.prog 164 equalSpec := by
  refine does_of_awp good_nil Tryz.func164 rfl (by decide +kernel) (by decide +kernel) ?_
  rintro args h Q ⟨a, b, rfl, hq⟩
  refine ⟨by simp [Tryz.f164], ?_⟩
  rw [awpFunc_some (by rfl)]
  simp -dsimp only [Vm.E, List.lookup, Nat.reduceAdd, Nat.reduceBEq, Int.reduceBNe, Int.reduceBEq, Bool.true_beq, Bool.false_beq, cs45]
  refine strOf_sl bt45 a rfl ?_
  simp -dsimp only [Vm.E, List.lookup, Nat.reduceAdd, Nat.reduceBEq, Int.reduceBNe, Int.reduceBEq, Bool.true_beq, Bool.false_beq, cs45]
  refine strOf_sl bt45 b rfl ?_
  simp -dsimp only [Vm.E, List.lookup, Nat.reduceAdd, Nat.reduceBEq, Int.reduceBNe, Int.reduceBEq, Bool.true_beq, Bool.false_beq, str_eql, toList_mk, Tryz.results164]
  exact hq

/-- A copy. -/
def cloneSpec : Vm.Spec := fun args h Q => ∃ l : List UInt8, l.length ≤ 70368744177664 ∧ args = [.sl 1 (l.map encB)] ∧ (∀ v, v = .own true 5 1 (l.map encB) ∨ (l = [] ∧ v = .v (.slice none 0 0)) → Q v h)

theorem does_clone : Does Tryz.prog 90 cloneSpec := by
  refine does_of_awp good_nil Tryz.func90 rfl (by decide +kernel) (by decide +kernel) ?_
  rintro args h Q ⟨l, hl, rfl, hq⟩
  refine ⟨by simp [Tryz.f90], ?_⟩
  rw [awpFunc_some (by rfl)]
  simp -dsimp only [Vm.E, List.lookup, Nat.reduceAdd, Nat.reduceBEq, Int.reduceBNe, Int.reduceBEq, Bool.true_beq, Bool.false_beq]
  refine nil_slice Tryz.underlying45 (nilSl_sl fun b hb => ?_)
  cases b
  · simp -dsimp only [Vm.E, List.lookup, Nat.reduceAdd, Nat.reduceBEq, Int.reduceBNe, Int.reduceBEq, Bool.true_beq, Bool.false_beq, es45]
    refine bs_intro zr5 (by decide) (by decide) rfl rfl (by simp) ?_
    simp -dsimp only [Vm.E, List.lookup, Nat.reduceAdd, Nat.reduceBEq, Int.reduceBNe, Int.reduceBEq, Bool.true_beq, Bool.false_beq, append_own ei45]
    refine app_sl Tryz.underlying45 (fun c hc => by obtain ⟨y, -, rfl⟩ := List.mem_map.1 hc; rfl) ?_ ?_
    · simp only [List.length_map, List.length_nil]; omega
    simp -dsimp only [Vm.E, List.lookup, Nat.reduceAdd, Nat.reduceBEq, Int.reduceBNe, Int.reduceBEq, Bool.true_beq, Bool.false_beq, Tryz.results90]
    exact hq _ (.inl rfl)
  · have hl0 : l = [] := by simpa using hb rfl
    subst hl0
    simp -dsimp only [Vm.E, List.lookup, Nat.reduceAdd, Nat.reduceBEq, Int.reduceBNe, Int.reduceBEq, Bool.true_beq, Bool.false_beq, Tryz.results90]
    exact hq _ (.inr ⟨rfl, rfl⟩)

def getStep (x : BitVec 64) (c : UInt8) : BitVec 64 := (x <<< 8) ||| BitVec.ofNat 64 c.toNat
def getOf (l : List UInt8) : BitVec 64 := l.foldl getStep 0#64

theorem get_take (l : List UInt8) (i : Nat) (h : i < l.length) : getOf (l.take (i + 1)) = getStep (getOf (l.take i)) l[i] := by
  rw [getOf, List.take_succ_eq_append_getElem h, List.foldl_append]; rfl

theorem wrap_i64_toInt (n : Int) : IntKind.i64.wrap n = (BitVec.ofInt 64 n).toInt := by
  rw [BitVec.toInt_ofInt]
  simp only [IntKind.wrap, IntKind.bits, IntKind.signed, Int.bmod]
  simp
  split <;> split <;> omega

theorem shl64 (x : BitVec 64) : IntKind.u64.wrap ((x.toNat : Int) * 2 ^ 8) = ((x <<< 8).toNat : Int) := by
  rw [wrap_u64_mod, BitVec.toNat_shiftLeft, Nat.shiftLeft_eq]
  omega
theorem or64 (a b : BitVec 64) : Go.bits .or .u64 (a.toNat : Int) (b.toNat : Int) = ((a ||| b).toNat : Int) := by
  have h1 : BitVec.ofInt 64 (a.toNat : Int) = a := by rw [BitVec.ofInt_natCast]; simp
  have h2 : BitVec.ofInt 64 (b.toNat : Int) = b := by rw [BitVec.ofInt_natCast]; simp
  show IntKind.u64.wrap ((BitVec.ofInt 64 (a.toNat : Int) ||| BitVec.ofInt 64 (b.toNat : Int)).toNat : Int) = _
  rw [h1, h2]
  have := (a ||| b).isLt
  exact wrap_u64 (by omega) (by omega)
theorem u8_64 (b : UInt8) : IntKind.u64.wrap (b.toNat : Int) = ((BitVec.ofNat 64 b.toNat).toNat : Int) := by
  have := b.toNat_lt
  rw [wrap_u64 (by omega) (by omega), BitVec.toNat_ofNat, Nat.mod_eq_of_lt (by omega)]
theorem u64_i64 (x : BitVec 64) : IntKind.i64.wrap (x.toNat : Int) = x.toInt := by
  rw [wrap_i64_toInt, BitVec.ofInt_natCast]; simp

theorem shl_i64 (x : BitVec 64) : IntKind.i64.wrap (x.toInt * 2 ^ 8) = (x <<< 8).toInt := by
  rw [wrap_i64_toInt]
  congr 1
  rw [BitVec.ofInt_mul, BitVec.ofInt_toInt, BitVec.shiftLeft_eq_mul_twoPow]
  rfl
theorem or_i64 (a b : BitVec 64) : Go.bits .or .i64 a.toInt b.toInt = (a ||| b).toInt := by
  show IntKind.i64.wrap ((BitVec.ofInt 64 a.toInt ||| BitVec.ofInt 64 b.toInt).toNat : Int) = _
  rw [BitVec.ofInt_toInt, BitVec.ofInt_toInt, u64_i64]
theorem u8_i64 (b : UInt8) : IntKind.i64.wrap (b.toNat : Int) = (BitVec.ofNat 64 b.toNat).toInt := by
  rw [wrap_i64_toInt, BitVec.ofInt_natCast]

/-- A number out of bytes: what is wrong, or the number. -/
def getRes (l : List UInt8) (at_ size : Int) : List AV :=
  if !sized size || decide (at_ < 0) then [.v (.int .i64 0), .v (.int .i64 1)]
  else if at_ > l.length - size then [.v (.int .i64 0), .v (.int .i64 3)]
  else [.v (.int .i64 (getOf ((l.drop at_.toNat).take size.toNat)).toInt), .v (.int .i64 0)]
def getSpec : Vm.Spec := fun args h Q => ∃ (l : List UInt8) (at_ size : Int), l.length ≤ 4611686018427387904 ∧ at_ ≤ 9223372036854775807 ∧
  args = [.sl 1 (l.map encB), .v (.int .i64 at_), .v (.int .i64 size)] ∧ Q (.tup (getRes l at_ size)) h

theorem does_get : Does Tryz.prog 167 getSpec := by
  refine does_of_awp (good_cons does_sized good_nil) Tryz.func167 rfl (by decide +kernel) (by decide +kernel) ?_
  rintro args h Q ⟨l, at_, size, hl, hat, rfl, hq⟩
  refine ⟨by simp [Tryz.f167], ?_⟩
  rw [awpFunc_some (by rfl)]
  unfold getRes at hq
  simp -dsimp only [Vm.E, List.lookup, Nat.reduceAdd, Nat.reduceBEq, Int.reduceBNe, Int.reduceBEq, Bool.true_beq, Bool.false_beq]
  refine call_one (S := sizedSpec) rfl _ GaL.rfl ⟨_, rfl, ?_⟩
  simp -dsimp only [Vm.E, List.lookup, Nat.reduceAdd, Nat.reduceBEq, Int.reduceBNe, Int.reduceBEq, Bool.true_beq, Bool.false_beq]
  cases hs : sized size
  · simp -dsimp only [Vm.E, List.lookup, Nat.reduceAdd, Nat.reduceBEq, Int.reduceBNe, Int.reduceBEq, Bool.true_beq, Bool.false_beq, Bool.not_false, Tryz.results167]
    simpa [hs] using hq
  · have hk : ∃ k : Nat, k ≤ 8 ∧ 1 ≤ k ∧ size = k ∧ size.toNat = k := by
      rcases sized_cases hs with rfl | rfl | rfl | rfl
      · exact ⟨1, by decide, by decide, rfl, rfl⟩
      · exact ⟨2, by decide, by decide, rfl, rfl⟩
      · exact ⟨4, by decide, by decide, rfl, rfl⟩
      · exact ⟨8, by decide, by decide, rfl, rfl⟩
    obtain ⟨k, hk8, hk1, rfl, hk2⟩ := hk
    simp -dsimp only [Vm.E, List.lookup, Nat.reduceAdd, Nat.reduceBEq, Int.reduceBNe, Int.reduceBEq, Bool.true_beq, Bool.false_beq, Bool.not_true]
    cases h0 : decide (at_ < 0)
    · have h0' : ¬ at_ < 0 := of_decide_eq_false h0
      simp -dsimp only [Vm.E, List.lookup, Nat.reduceAdd, Nat.reduceBEq, Int.reduceBNe, Int.reduceBEq, Bool.true_beq, Bool.false_beq, Tryz.underlying45]
      cases h1 : decide ((l.length : Int) < (k : Int))
      · have h1' : ¬ (l.length : Int) < (k : Int) := of_decide_eq_false h1
        simp -dsimp only [Vm.E, List.lookup, Nat.reduceAdd, Nat.reduceBEq, Int.reduceBNe, Int.reduceBEq, Bool.true_beq, Bool.false_beq, Tryz.underlying45]
        rw [wrap_i64 (n := (l.length : Int) - k) (by omega) (by omega)]
        cases h2 : decide (at_ > (l.length : Int) - k)
        · have h2' : ¬ at_ > (l.length : Int) - k := of_decide_eq_false h2
          simp -dsimp only [Vm.E, List.lookup, Nat.reduceAdd, Nat.reduceBEq, Int.reduceBNe, Int.reduceBEq, Bool.true_beq, Bool.false_beq, Tryz.underlying45]
          rw [wrap_i64 (n := at_ + k) (by omega) (by omega)]
          refine slice_lh es45 (by omega) (by omega) (by simp; omega) ?_
          have hsl : ((l.map encB).take (at_ + k).toNat).drop at_.toNat = ((l.drop at_.toNat).take k).map encB := by
            rw [← List.map_take, ← List.map_drop, List.drop_take]
            congr 2
            omega
          rw [hsl]
          have hlen : ((l.drop at_.toNat).take k).length = k := by simp; omega
          generalize hb : (l.drop at_.toNat).take k = b at hsl hlen
          simp -dsimp only [Vm.E, List.lookup, Nat.reduceAdd, Nat.reduceBEq, Int.reduceBNe, Int.reduceBEq, Bool.true_beq, Bool.false_beq, Tryz.underlying45]
          refine awp_loop (fun n s h' => ∃ i, i + n = b.length ∧ h' = h ∧ s = mk [(8, .v (.int .u64 ((getOf (b.take i)).toNat : Int))), (35, .sl 1 (b.map encB)), (36, .v (.int .i64 b.length)), (37, .v (.int .i64 i))])
            b.length _ (le_mk _ ?_) ⟨0, by omega, rfl, rfl⟩ ?_
          · simp [init_get, getOf]
          · rintro n s h' ⟨i, hi, rfl, rfl⟩
            simp -dsimp only [Vm.E, List.lookup, Nat.reduceAdd, Nat.reduceBEq, Int.reduceBNe, Int.reduceBEq, Bool.true_beq, Bool.false_beq]
            refine cond_intro (fun hc => ?_) (fun hc => ?_)
            · have hlt : i < b.length := by have := of_decide_eq_true hc; omega
              simp -dsimp only [Vm.E, List.lookup, Nat.reduceAdd, Nat.reduceBEq, Int.reduceBNe, Int.reduceBEq, Bool.true_beq, Bool.false_beq, es45, as45]
              refine idx_bytes b i hlt ?_
              simp -dsimp only [Vm.E, List.lookup, Nat.reduceAdd, Nat.reduceBEq, Int.reduceBNe, Int.reduceBEq, Bool.true_beq, Bool.false_beq, of5]
              refine shl_intro (by decide) ?_
              rw [show min (Int.toNat 8) IntKind.u64.bits = 8 by decide, shl64]
              simp -dsimp only [Vm.E, List.lookup, Nat.reduceAdd, Nat.reduceBEq, Int.reduceBNe, Int.reduceBEq, Bool.true_beq, Bool.false_beq, cv5_233, u8_64, or64]
              refine kept_intro ⟨b.length - (i + 1), by omega, _, le_mk [(8, .v (.int .u64 ((getOf (b.take (i + 1))).toNat : Int))), (35, .sl 1 (b.map encB)), (36, .v (.int .i64 b.length)), (37, .v (.int .i64 (i + 1 : Nat)))] ?_, i + 1, by omega, rfl, rfl⟩
              simp only [List.forall_mem_cons, List.not_mem_nil, false_imp_iff, implies_true, and_true]
              simp -dsimp only [Vm.E, List.lookup, Nat.reduceAdd, Nat.reduceBEq, Int.reduceBNe, Int.reduceBEq, Bool.true_beq, Bool.false_beq]
              rw [get_take b i hlt, wrap_i64 (by omega) (by omega)]
              exact ⟨.refl _, .refl _, .refl _, .refl _⟩
            · have hge : ¬ i < b.length := by have := of_decide_eq_false hc; omega
              simp -dsimp only [Vm.E, List.lookup, Nat.reduceAdd, Nat.reduceBEq, Int.reduceBNe, Int.reduceBEq, Bool.true_beq, Bool.false_beq, cv233_3, u64_i64, Tryz.results167]
              rw [List.take_of_length_le (by omega)]
              simpa [hs, h0', h2', hk2, hb] using hq
        · have h2' : at_ > (l.length : Int) - k := of_decide_eq_true h2
          simp -dsimp only [Vm.E, List.lookup, Nat.reduceAdd, Nat.reduceBEq, Int.reduceBNe, Int.reduceBEq, Bool.true_beq, Bool.false_beq, Tryz.results167]
          simpa [hs, h0', h2'] using hq
      · have h1' : (l.length : Int) < (k : Int) := of_decide_eq_true h1
        have h2' : at_ > (l.length : Int) - k := by omega
        simp -dsimp only [Vm.E, List.lookup, Nat.reduceAdd, Nat.reduceBEq, Int.reduceBNe, Int.reduceBEq, Bool.true_beq, Bool.false_beq, Tryz.results167]
        simpa [hs, h0', h2'] using hq
    · have h0' : at_ < 0 := of_decide_eq_true h0
      simp -dsimp only [Vm.E, List.lookup, Nat.reduceAdd, Nat.reduceBEq, Int.reduceBNe, Int.reduceBEq, Bool.true_beq, Bool.false_beq, Tryz.results167]
      simpa [hs, h0'] using hq

end Go.Proofs.Lx
