/- The law SeqnRises: walked. -/
import Derived.Test.YtfhmmgodegmilaaDoorL7
import Derived.Test.YtfhmmgodegmilaaDoorVmW
set_option linter.unusedSimpArgs false
set_option linter.unusedVariables false
namespace Go.Proofs
open Go.Vm
attribute [local irreducible] awpArr awpBin awpMake awpAppend awpCvX awpStrOf awpBinX awpSlice awpBS awpStore awpAlloc awpCopy awpIndex awpDraw awpIdxX awpFa awpField awpLookup awpUpdate awpDelete awpClear awpRange awpNext awpEntry awpBuild

def yesSpec : Vm.Spec := fun args h Q => args = [] ∧ ∀ h', Q (.v (.bool true)) h'

theorem seqKey_ne {a b : Int} (h : clampK a ≠ clampK b) (ha : 0 ≤ a ∧ a < 256) (hb : 0 ≤ b ∧ b < 256) : seqKey a ≠ seqKey b := by
  have e1 : clampK a = a := by unfold clampK; split <;> split <;> omega
  have e2 : clampK b = b := by unfold clampK; split <;> split <;> omega
  intro he
  have h1 : be 4 (clampK a) = be 4 (clampK b) := by simpa [seqKey, keyOf, packs] using he
  rw [e1, e2] at h1 h
  have hb4 : ∀ n, be 4 n = [byteOf n 3, byteOf n 2, byteOf n 1, byteOf n 0] := fun n => rfl
  rw [hb4, hb4] at h1
  have h0 : byteOf a 0 = byteOf b 0 := by simp at h1; exact h1.2.2.2
  have g1 := byteOf_nat a 0
  have g2 := byteOf_nat b 0
  rw [h0] at g1
  simp at g1 g2
  omega

theorem does_law20awake : Does Tryd.prog 5 yesSpec := by
  refine does_of_awp (good_cons does_vnew (good_cons does_seqNext (good_cons does_seqLast good_nil))) Tryd.func5 rfl (by decide +kernel) (by decide +kernel) ?_
  rintro args h Q ⟨rfl, hq⟩
  refine ⟨by simp [Tryd.f5], ?_⟩
  rw [awpFunc_some (by rfl)]
  simp -dsimp only [Vm.E, List.lookup, Nat.reduceAdd, Nat.reduceBEq, Int.reduceBNe, Int.reduceBEq]
  refine call_one (S := vnewSpec) rfl _ GaL.rfl ⟨rfl, ?_⟩
  have hV := isView_new h
  generalize hh : (h ++ [AObj.map [] 0, AObj.map [] 0, vobj h.length (h.length + 1)]) = h0 at hV ⊢
  simp -dsimp only [Vm.E, List.lookup, Nat.reduceAdd, Nat.reduceBEq, Int.reduceBNe, Int.reduceBEq]
  have r0 : readOf (fun _ => none) (seqKey 1) = 0 := rfl
  refine call_one (S := seqNextSpec) rfl _ GaL.rfl ⟨⟨h.length + 2, h.length, h.length + 1⟩, _, 1, rfl, hV, fun hc => by rw [r0] at hc; omega, fun _ h1 hV1 _ => ?_⟩
  rw [r0] at hV1 ⊢
  simp -dsimp only [Vm.E, List.lookup, Nat.reduceAdd, Nat.reduceBEq, Int.reduceBNe, Int.reduceBEq]
  have r1 : readOf (upd (fun _ => none) (seqKey 1) (some (be 8 (0 + 1)))) (seqKey 1) = 1 := by rw [readOf_upd _ _ _ _ (by unfold I64; omega), if_pos rfl]; rfl
  refine call_one (S := seqNextSpec) rfl _ GaL.rfl ⟨⟨h.length + 2, h.length, h.length + 1⟩, _, 1, rfl, hV1, fun hc => by rw [r1] at hc; omega, fun _ h2 hV2 _ => ?_⟩
  rw [r1] at hV2 ⊢
  simp -dsimp only [Vm.E, List.lookup, Nat.reduceAdd, Nat.reduceBEq, Int.reduceBNe, Int.reduceBEq]
  refine nil_pointer Tryd.underlying24 ?_
  simp -dsimp only [Vm.E, List.lookup, Nat.reduceAdd, Nat.reduceBEq, Int.reduceBNe, Int.reduceBEq, Int.reduceAdd]
  have r2 : readOf (upd (upd (fun _ => none) (seqKey 1) (some (be 8 (0 + 1)))) (seqKey 1) (some (be 8 (1 + 1)))) (seqKey 1) = 2 := by rw [readOf_upd _ _ _ _ (by unfold I64; omega), if_pos rfl]; rfl
  have r3 : readOf (upd (upd (fun _ => none) (seqKey 1) (some (be 8 (0 + 1)))) (seqKey 1) (some (be 8 (1 + 1)))) (seqKey 2) = 0 := by
    have hne : seqKey 2 ≠ seqKey 1 := seqKey_ne (by decide) (by omega) (by omega)
    rw [readOf_upd _ _ _ _ (by unfold I64; omega), if_neg hne, readOf_upd _ _ _ _ (by unfold I64; omega), if_neg hne]; rfl
  refine call_one (S := seqLastSpec) rfl _ GaL.rfl ⟨⟨h.length + 2, h.length, h.length + 1⟩, _, 1, rfl, hV2, ?_⟩
  rw [r2]
  simp -dsimp only [Vm.E, List.lookup, Nat.reduceAdd, Nat.reduceBEq, Int.reduceBNe, Int.reduceBEq]
  refine call_one (S := seqLastSpec) rfl _ GaL.rfl ⟨⟨h.length + 2, h.length, h.length + 1⟩, _, 2, rfl, hV2, ?_⟩
  rw [r3]
  simp -dsimp only [Vm.E, List.lookup, Nat.reduceAdd, Nat.reduceBEq, Int.reduceBNe, Int.reduceBEq, Tryd.results5]
  exact hq _

theorem seqKey_nat_ne {a b : Nat} (h : a ≠ b) (ha : a < 4) (hb : b < 4) : seqKey (a : Int) ≠ seqKey (b : Int) := by
  refine seqKey_ne ?_ (by omega) (by omega)
  have e1 : clampK (a : Int) = a := by unfold clampK; split <;> split <;> omega
  have e2 : clampK (b : Int) = b := by unfold clampK; split <;> split <;> omega
  rw [e1, e2]; omega

def risesSpec : Vm.Spec := fun args h Q => ∃ l : List UInt8, l.length ≤ 9223372036854775807 ∧ args = [.sl 1 (l.map encB)] ∧ ∀ h', Q (.v (.bool true)) h'

def cells4 (c : Nat → Nat) : List AV := [.v (.int .i64 (c 0 : Nat)), .v (.int .i64 (c 1 : Nat)), .v (.int .i64 (c 2 : Nat)), .v (.int .i64 (c 3 : Nat))]

theorem drop4 (c : Nat → Nat) (r : Nat) (h : r < 4) : (cells4 c).drop (r * 1) = .v (.int .i64 (c r : Nat)) :: (cells4 c).drop (r + 1) := by
  have : r = 0 ∨ r = 1 ∨ r = 2 ∨ r = 3 := by omega
  rcases this with rfl | rfl | rfl | rfl <;> rfl
theorem put4 (c : Nat → Nat) (r : Nat) (h : r < 4) : putCells (cells4 c) (r * 1) [.v (.int .i64 ((c r : Nat) + 1 : Int))] = cells4 fun j => if j = r then c r + 1 else c j := by
  have : r = 0 ∨ r = 1 ∨ r = 2 ∨ r = 3 := by omega
  rcases this with rfl | rfl | rfl | rfl <;> rfl

set_option maxHeartbeats 16000000 in
theorem does_rises : Does Tryd.prog 3 risesSpec := by
  refine does_of_awp (good_cons does_vnew (good_cons does_seqNext (good_cons does_law20awake good_nil))) Tryd.func3 rfl (by decide +kernel) (by decide +kernel) ?_
  rintro args h Q ⟨l, hl, rfl, hq⟩
  refine ⟨by simp [Tryd.f3], ?_⟩
  rw [awpFunc_some (by rfl)]
  have al := fun K => @alloc_agg Tryd.prog 26 _ z26 (by simp [plain]) K
  simp -dsimp only [Vm.E, List.lookup, Nat.reduceAdd, Nat.reduceBEq, Int.reduceBNe, Int.reduceBEq, Tryd.underlying22]
  cases c60 : decide ((l.length : Int) > 60)
  · have d60 := of_decide_eq_false c60
    simp -dsimp only [Vm.E, List.lookup, Nat.reduceAdd, Nat.reduceBEq, Int.reduceBNe, Int.reduceBEq]
    refine call_one (S := vnewSpec) rfl _ GaL.rfl ⟨rfl, ?_⟩
    have hV := isView_new h
    generalize hh : (h ++ [AObj.map [] 0, AObj.map [] 0, vobj h.length (h.length + 1)]) = h0 at hV ⊢
    simp -dsimp only [Vm.E, List.lookup, Nat.reduceAdd, Nat.reduceBEq, Int.reduceBNe, Int.reduceBEq, al, Tryd.underlying22]
    refine awp_loop (fun m s h' => ∃ (i : Nat) (c : Nat → Nat) (f : List UInt8 → Option (List UInt8)), i + m = l.length ∧ isView h' ⟨h.length + 2, h.length, h.length + 1⟩ f ∧ (∀ j : Nat, j < 4 → readOf f (seqKey j) = (c j : Nat)) ∧ (∀ j, c j ≤ i) ∧
        s = mk [(0, .sl 1 (l.map encB)), (3, .ptr (h.length + 2) 0), (4, .box (cells4 c)), (14, .sl 1 (l.map encB)), (15, .v (.int .i64 l.length)), (16, .v (.int .i64 i))])
      l.length _ (le_mk _ ?_) ⟨0, fun _ => 0, fun _ => none, by omega, hV, fun j _ => rfl, fun _ => Nat.le_refl _, rfl⟩ ?_
    · simp only [List.forall_mem_cons, List.not_mem_nil, false_imp_iff, implies_true, and_true]
      simp -dsimp only [Vm.E, List.lookup, Nat.reduceAdd, Nat.reduceBEq, Int.reduceBNe, Int.reduceBEq]
      exact ⟨.refl _, .refl _, .refl _, .refl _, .refl _, .refl _⟩
    · rintro m s h' ⟨i, c, f, hi, hV, hc, hci, rfl⟩
      simp -dsimp only [Vm.E, List.lookup, Nat.reduceAdd, Nat.reduceBEq, Int.reduceBNe, Int.reduceBEq]
      refine cond_intro (fun hcc => ?_) (fun hcc => ?_)
      · have hlt : i < l.length := by have := of_decide_eq_true hcc; omega
        simp -dsimp only [Vm.E, List.lookup, Nat.reduceAdd, Nat.reduceBEq, Int.reduceBNe, Int.reduceBEq, es22, as22]
        refine idx_bytes l i hlt ?_
        simp -dsimp only [Vm.E, List.lookup, Nat.reduceAdd, Nat.reduceBEq, Int.reduceBNe, Int.reduceBEq, of5]
        refine rem_intro (by decide) ?_
        have hr : ∃ r : Nat, r < 4 ∧ ((l[i].toNat : Int).tmod 4) = (r : Nat) := ⟨l[i].toNat % 4, by omega, by rw [Int.tmod_eq_emod_of_nonneg (by omega)]; omega⟩
        obtain ⟨r, hr4, hre⟩ := hr
        simp only [hre]
        simp -dsimp only [Vm.E, List.lookup, Nat.reduceAdd, Nat.reduceBEq, Int.reduceBNe, Int.reduceBEq, cv5_3]
        simp only [wrap_i64 (show -9223372036854775808 ≤ (r : Int) by omega) (show (r : Int) ≤ 9223372036854775807 by omega)]
        have hcr := hc r hr4
        have hb := hci r
        refine call_one (S := seqNextSpec) rfl _ GaL.rfl ⟨⟨h.length + 2, h.length, h.length + 1⟩, f, r, rfl, hV, fun hx => by rw [hcr] at hx; omega, fun _ h1 hV1 _ => ?_⟩
        simp only [hcr] at hV1 ⊢
        simp -dsimp only [Vm.E, List.lookup, Nat.reduceAdd, Nat.reduceBEq, Int.reduceBNe, Int.reduceBEq]
        refine rem_intro (by decide) ?_
        simp only [hre]
        simp -dsimp only [Vm.E, List.lookup, Nat.reduceAdd, Nat.reduceBEq, Int.reduceBNe, Int.reduceBEq, as26]
        refine arr_place (by omega) (by omega) ?_
        simp only [Int.toNat_natCast]
        have hne : ∀ j : Nat, j < 4 → j ≠ r → seqKey (j : Int) ≠ seqKey (r : Int) := fun j hj hjr => seqKey_nat_ne hjr hj hr4
        have hI : I64 ((c r : Nat) + 1 : Int) := by unfold I64; omega
        have hc2 : ∀ j : Nat, j < 4 → readOf (upd f (seqKey r) (some (be 8 ((c r : Nat) + 1)))) (seqKey j) = ((if j = r then c r + 1 else c j : Nat) : Int) := fun j hj => by
          rw [readOf_upd _ _ _ _ hI]
          by_cases hjr : j = r
          · subst hjr; simp
          · rw [if_neg (hne j hj hjr), if_neg hjr]; exact hc j hj
        have hfin : ∀ s', s' 0 = .sl 1 (l.map encB) → s' 3 = .ptr (h.length + 2) 0 → s' 4 = .box (cells4 fun j => if j = r then c r + 1 else c j) → s' 14 = .sl 1 (l.map encB) → s' 15 = .v (.int .i64 l.length) → s' 16 = .v (.int .i64 (i + 1 : Nat)) →
            (∃ m', m' < m ∧ ∃ s1, Le s' s1 ∧ ∃ (i : Nat) (c : Nat → Nat) (f : List UInt8 → Option (List UInt8)), i + m' = l.length ∧ isView h1 ⟨h.length + 2, h.length, h.length + 1⟩ f ∧ (∀ j : Nat, j < 4 → readOf f (seqKey j) = (c j : Nat)) ∧ (∀ j, c j ≤ i) ∧
              s1 = mk [(0, .sl 1 (l.map encB)), (3, .ptr (h.length + 2) 0), (4, .box (cells4 c)), (14, .sl 1 (l.map encB)), (15, .v (.int .i64 l.length)), (16, .v (.int .i64 i))]) := fun s' e0 e3 e4 e14 e15 e16 => by
          refine ⟨l.length - (i + 1), by omega, _, le_mk [(0, .sl 1 (l.map encB)), (3, .ptr (h.length + 2) 0), (4, .box (cells4 fun j => if j = r then c r + 1 else c j)), (14, .sl 1 (l.map encB)), (15, .v (.int .i64 l.length)), (16, .v (.int .i64 (i + 1 : Nat)))] ?_,
            i + 1, fun j => if j = r then c r + 1 else c j, _, by omega, hV1, hc2, fun j => ?_, rfl⟩
          · simp only [List.forall_mem_cons, List.not_mem_nil, false_imp_iff, implies_true, and_true, e0, e3, e4, e14, e15, e16]
            exact ⟨.refl _, .refl _, .refl _, .refl _, .refl _, .refl _⟩
          · have := hci j
            simp only []
            split <;> omega
        have hw : IntKind.i64.wrap ((c r : Nat) + 1 : Int) = (c r : Nat) + 1 := wrap_i64 (by omega) (by omega)
        have hw2 : IntKind.i64.wrap ((i : Int) + 1) = ((i + 1 : Nat) : Int) := by rw [wrap_i64 (by omega) (by omega)]; simp
        have hd4 := drop4 c r hr4
        have hp4 := put4 c r hr4
        clear hc2 hne hc
        simp -dsimp only [Vm.E, List.lookup, Nat.reduceAdd, Nat.reduceBEq, Int.reduceBNe, Int.reduceBEq, of3, hd4, hw, bne_self_eq_false]
        refine rem_intro (by decide) ?_
        simp only [hre]
        simp -dsimp only [Vm.E, List.lookup, Nat.reduceAdd, Nat.reduceBEq, Int.reduceBNe, Int.reduceBEq, as26]
        refine arr_place (by omega) (by omega) ?_
        simp only [Int.toNat_natCast]
        simp -dsimp only [Vm.E, List.lookup, Nat.reduceAdd, Nat.reduceBEq, Int.reduceBNe, Int.reduceBEq, sz3]
        refine store_place (cells4 c) (by simp -dsimp only [Vm.E, List.lookup, Nat.reduceAdd, Nat.reduceBEq, Int.reduceBNe, Int.reduceBEq]) rfl rfl (by simp only [cells4, List.length_cons, List.length_nil]; omega) ?_
        simp -dsimp only [Vm.E, List.lookup, Nat.reduceAdd, Nat.reduceBEq, Int.reduceBNe, Int.reduceBEq, hp4, hw2]
        exact kept_intro (hfin _ (by simp -dsimp only [Vm.E, List.lookup, Nat.reduceAdd, Nat.reduceBEq, Int.reduceBNe, Int.reduceBEq]) (by simp -dsimp only [Vm.E, List.lookup, Nat.reduceAdd, Nat.reduceBEq, Int.reduceBNe, Int.reduceBEq]) (by simp -dsimp only [Vm.E, List.lookup, Nat.reduceAdd, Nat.reduceBEq, Int.reduceBNe, Int.reduceBEq]) (by simp -dsimp only [Vm.E, List.lookup, Nat.reduceAdd, Nat.reduceBEq, Int.reduceBNe, Int.reduceBEq]) (by simp -dsimp only [Vm.E, List.lookup, Nat.reduceAdd, Nat.reduceBEq, Int.reduceBNe, Int.reduceBEq]) (by simp -dsimp only [Vm.E, List.lookup, Nat.reduceAdd, Nat.reduceBEq, Int.reduceBNe, Int.reduceBEq]))
      · have hge : ¬ i < l.length := by have := of_decide_eq_false hcc; omega
        simp -dsimp only [Vm.E, List.lookup, Nat.reduceAdd, Nat.reduceBEq, Int.reduceBNe, Int.reduceBEq]
        refine call_one (S := yesSpec) rfl _ GaL.rfl ⟨rfl, fun h2 => ?_⟩
        simp -dsimp only [Vm.E, List.lookup, Nat.reduceAdd, Nat.reduceBEq, Int.reduceBNe, Int.reduceBEq, Tryd.results3]
        exact hq _
  · simp -dsimp only [Vm.E, List.lookup, Nat.reduceAdd, Nat.reduceBEq, Int.reduceBNe, Int.reduceBEq]
    refine call_one (S := yesSpec) rfl _ GaL.rfl ⟨rfl, fun h2 => ?_⟩
    simp -dsimp only [Vm.E, List.lookup, Nat.reduceAdd, Nat.reduceBEq, Int.reduceBNe, Int.reduceBEq, Tryd.results3]
    exact hq _

theorem rises_args {y0 : AV} (i0 : IsA (.sl (.int .u8)) y0) {Q : AV → Heap → Prop} (hq : ∀ h', Q (.v (.bool true)) h') : risesSpec [y0] [] Q := by
  obtain ⟨l, hl, rfl⟩ := isA_bytes i0
  exact ⟨l, Nat.le_trans hl (by decide), rfl, hq⟩

end Go.Proofs
