/- Numbers that are given out: seqn. -/
import Derived.Test.YtfhmmgodegmilaaDoorL5
set_option linter.unusedSimpArgs false
set_option linter.unusedVariables false
namespace Go.Proofs
open Go.Vm
attribute [local irreducible] awpMake awpAppend awpCvX awpStrOf awpBinX awpSlice awpBS awpStore awpAlloc awpCopy awpIndex awpDraw awpIdxX awpFa awpField awpLookup awpUpdate awpDelete awpClear awpRange awpNext awpEntry awpBuild

def seqKey (which : Int) : List UInt8 := keyOf 83 [which]
def ofSpec : Vm.Spec := fun args h Q => ∃ iv which, args = [.ptr iv 0, .v (.int .i64 which)] ∧ Q (.agg [.ptr iv 0, .sl 1 ((seqKey which).map encB)]) h

theorem does_seqOf : Does Tryd.prog 11 ofSpec := by
  refine does_of_awp (good_cons does_key good_nil) Tryd.func11 rfl (by decide +kernel) (by decide +kernel) ?_
  rintro args h Q ⟨iv, which, rfl, hq⟩
  refine ⟨by simp [Tryd.f11], ?_⟩
  rw [awpFunc_some (by rfl)]
  have al := fun K => @alloc_agg Tryd.prog 45 _ z45 (by simp [plain]) K
  simp -dsimp only [Vm.E, List.lookup, Nat.reduceAdd, Nat.reduceBEq, Int.reduceBNe, Int.reduceBEq, al, es59]
  refine bs_intro zr3 (by decide) (by decide) rfl rfl (by simp [solid, AV.cells]) ?_
  simp -dsimp only [Vm.E, List.lookup, Nat.reduceAdd, Nat.reduceBEq, Int.reduceBNe, Int.reduceBEq]
  refine call_one (S := keySpec) rfl _ GaL.rfl ⟨83, [which], by simp, rfl, ?_⟩
  simp -dsimp only [Vm.E, List.lookup, Nat.reduceAdd, Nat.reduceBEq, Int.reduceBNe, Int.reduceBEq]
  refine build_intro fl45 z45 rfl rfl ?_
  simp -dsimp only [Vm.E, List.lookup, Nat.reduceAdd, Nat.reduceBEq, Int.reduceBNe, Int.reduceBEq, sz45]
  refine store_place _ rfl rfl rfl (by decide) ?_
  simp -dsimp only [Vm.E, List.lookup, Nat.reduceAdd, Nat.reduceBEq, Int.reduceBNe, Int.reduceBEq, Tryd.results11, of45]
  exact ⟨Nat.le_refl 2, hq⟩

/-- The number that stands at a key. -/
def readOf (f : List UInt8 → Option (List UInt8)) (key : List UInt8) : Int :=
  match f key with
  | none => 0
  | some b => if b.length = 8 then num8 b 0 else 0
def seqReadSpec : Vm.Spec := fun args h Q => ∃ V f key, args = [.agg [.ptr V.iv 0, .sl 1 (key.map encB)]] ∧ isView h V f ∧ (∀ l, f key = some l → l.length ≤ 120) ∧ Q (.v (.int .i64 (readOf f key))) h

theorem does_seqRead : Does Tryd.prog 12 seqReadSpec := by
  refine does_of_awp (good_cons does_vget (good_cons does_unpack good_nil)) Tryd.func12 rfl (by decide +kernel) (by decide +kernel) ?_
  rintro args h Q ⟨V, f, key, rfl, hV, hlen, hq⟩
  refine ⟨by simp [Tryd.f12], ?_⟩
  rw [awpFunc_some (by rfl)]
  unfold readOf at hq
  simp -dsimp only [Vm.E, List.lookup, Nat.reduceAdd, Nat.reduceBEq, Int.reduceBNe, Int.reduceBEq, fo45_0, fo45_1, of24, of22]
  refine call_one (S := vgetSpec) rfl _ GaL.rfl ⟨V, f, key, rfl, hV, fun x l hx hf => ?_, fun x hx hf => ?_⟩
  · rw [hf] at hq
    have hl := hlen l hf
    have hg := hx.ga
    have hq : Q (.v (.int .i64 (if l.length = 8 then num8 l 0 else 0))) h := hq
    rcases hx with rfl | ⟨rfl, rfl⟩
    · simp -dsimp only [Vm.E, List.lookup, Nat.reduceAdd, Nat.reduceBEq, Int.reduceBNe, Int.reduceBEq]
      refine call_one (S := unpackSpec) rfl _ (GaL.cons hg GaL.rfl) ⟨l, 1, by omega, by unfold I64; omega, rfl, ?_⟩
      unfold unpackRes
      by_cases h8 : l.length = 8
      · rw [if_pos h8] at hq
        rw [if_neg (by omega), if_neg (by simp [h8])]
        simp -dsimp only [Vm.E, List.lookup, Nat.reduceAdd, Nat.reduceBEq, Int.reduceBNe, Int.reduceBEq, bne_self_eq_false, es59, as59]
        refine idx_ints (numsOf l 1) 0 (by simp [numsOf]) ?_
        simp -dsimp only [Vm.E, List.lookup, Nat.reduceAdd, Nat.reduceBEq, Int.reduceBNe, Int.reduceBEq, of3, Tryd.results12]
        simpa [numsOf] using hq
      · rw [if_neg h8] at hq
        rw [if_neg (by omega), if_pos (by omega)]
        simp -dsimp only [Vm.E, List.lookup, Nat.reduceAdd, Nat.reduceBEq, Int.reduceBNe, Int.reduceBEq, Tryd.results12]
        exact hq
    · simp -dsimp only [Vm.E, List.lookup, Nat.reduceAdd, Nat.reduceBEq, Int.reduceBNe, Int.reduceBEq]
      refine call_one (S := unpackSpec) rfl _ (GaL.cons hg GaL.rfl) ⟨[], 1, by simp, by unfold I64; omega, rfl, ?_⟩
      unfold unpackRes
      rw [if_neg (by omega), if_pos (by simp)]
      simp -dsimp only [Vm.E, List.lookup, Nat.reduceAdd, Nat.reduceBEq, Int.reduceBNe, Int.reduceBEq, Tryd.results12]
      simpa using hq
  · rw [hf] at hq
    rcases hx with rfl | ⟨-, rfl⟩
    · simp -dsimp only [Vm.E, List.lookup, Nat.reduceAdd, Nat.reduceBEq, Int.reduceBNe, Int.reduceBEq, Tryd.results12]
      exact hq
    · simp -dsimp only [Vm.E, List.lookup, Nat.reduceAdd, Nat.reduceBEq, Int.reduceBNe, Int.reduceBEq, Tryd.results12]
      exact hq

theorem isView.len {h : Heap} {V : VId} {f : List UInt8 → Option (List UInt8)} (hV : isView h V f) (k l : List UInt8) (hf : f k = some l) : l.length ≤ 120 := by
  obtain ⟨chg, clk, mem, clk2, h1, h2, h3, h4, h5, h6, h7⟩ := hV
  rw [h7, nowOf] at hf
  split at hf
  · rename_i e he
    obtain ⟨-, x, l', b, hx, hl, hv⟩ := h5.1 e (mget_mem he)
    rw [hv] at hf
    cases b
    · simp only [shapeOf, bytesOf_isB hx, Option.some.injEq] at hf; subst hf; exact hl
    · simp [shapeOf] at hf
  · cases hm : mget (strK k) mem with
    | none => rw [hm] at hf; cases hf
    | some e =>
      rw [hm] at hf
      obtain ⟨-, l', hx, hl⟩ := h5.2 e (mget_mem hm)
      simp only [Option.map_some, bytesOf_isB hx, Option.some.injEq] at hf
      subst hf; exact hl

def seqLastSpec : Vm.Spec := fun args h Q => ∃ V f which, args = [.ptr V.iv 0, .v (.int .i64 which)] ∧ isView h V f ∧ Q (.v (.int .i64 (readOf f (seqKey which)))) h

theorem does_seqLast : Does Tryd.prog 10 seqLastSpec := by
  refine does_of_awp (good_cons does_seqOf (good_cons does_seqRead good_nil)) Tryd.func10 rfl (by decide +kernel) (by decide +kernel) ?_
  rintro args h Q ⟨V, f, which, rfl, hV, hq⟩
  refine ⟨by simp [Tryd.f10], ?_⟩
  rw [awpFunc_some (by rfl)]
  simp -dsimp only [Vm.E, List.lookup, Nat.reduceAdd, Nat.reduceBEq, Int.reduceBNe, Int.reduceBEq]
  refine call_one (S := ofSpec) rfl _ GaL.rfl ⟨V.iv, which, rfl, ?_⟩
  simp -dsimp only [Vm.E, List.lookup, Nat.reduceAdd, Nat.reduceBEq, Int.reduceBNe, Int.reduceBEq]
  refine call_one (S := seqReadSpec) rfl _ GaL.rfl ⟨V, f, seqKey which, rfl, hV, fun l hl => hV.len _ l hl, ?_⟩
  simp -dsimp only [Vm.E, List.lookup, Nat.reduceAdd, Nat.reduceBEq, Int.reduceBNe, Int.reduceBEq, Tryd.results10]
  exact hq

theorem readOf_range (f : List UInt8 → Option (List UInt8)) (k : List UInt8) : I64 (readOf f k) := by
  unfold readOf
  split
  · unfold I64; omega
  · split
    · exact num8_range _ _
    · unfold I64; omega

def seqNextSpec : Vm.Spec := fun args h Q => ∃ V f which, args = [.ptr V.iv 0, .v (.int .i64 which)] ∧ isView h V f ∧
  (readOf f (seqKey which) < 0 ∨ 4294967294 < readOf f (seqKey which) → Q (.tup [.v (.int .i64 0), .v (.int .i64 9)]) h) ∧
  (¬ (readOf f (seqKey which) < 0 ∨ 4294967294 < readOf f (seqKey which)) → ∀ h', isView h' V (upd f (seqKey which) (some (be 8 (readOf f (seqKey which) + 1)))) → Same h h' [V.ic] →
    Q (.tup [.v (.int .i64 (readOf f (seqKey which) + 1)), .v (.int .i64 0)]) h')

theorem seqKey_length (which : Int) : (seqKey which).length = 5 := by
  simp [seqKey, keyOf, packs, be_length]
theorem packOf_one (n : Int) : packOf [n] = be 8 n := by simp [packOf, packs]
theorem right_seq (which n : Int) : rightKV (seqKey which) (be 8 n) = true := by
  simp [rightKV, seqKey_length, be_length]

theorem does_seqNext : Does Tryd.prog 7 seqNextSpec := by
  refine does_of_awp (good_cons does_seqOf (good_cons does_seqRead (good_cons does_pack (good_cons does_vput good_nil)))) Tryd.func7 rfl (by decide +kernel) (by decide +kernel) ?_
  rintro args h Q ⟨V, f, which, rfl, hV, hq1, hq2⟩
  refine ⟨by simp [Tryd.f7], ?_⟩
  rw [awpFunc_some (by rfl)]
  have al := fun K => @alloc_agg Tryd.prog 45 _ z45 (by simp [plain]) K
  simp -dsimp only [Vm.E, List.lookup, Nat.reduceAdd, Nat.reduceBEq, Int.reduceBNe, Int.reduceBEq]
  refine call_one (S := ofSpec) rfl _ GaL.rfl ⟨V.iv, which, rfl, ?_⟩
  simp -dsimp only [Vm.E, List.lookup, Nat.reduceAdd, Nat.reduceBEq, Int.reduceBNe, Int.reduceBEq, al, sz45]
  refine store_place _ rfl rfl rfl (by decide) ?_
  simp -dsimp only [Vm.E, List.lookup, Nat.reduceAdd, Nat.reduceBEq, Int.reduceBNe, Int.reduceBEq, of45]
  refine ⟨Nat.le_refl 2, ?_⟩
  have hp : (putCells [AV.v (.pointer none), AV.v (.slice none 0 0)] 0 [AV.ptr V.iv 0, AV.sl 1 ((seqKey which).map encB)]) = [AV.ptr V.iv 0, AV.sl 1 ((seqKey which).map encB)] := rfl
  rw [hp]
  simp -dsimp only [Vm.E, List.lookup, Nat.reduceAdd, Nat.reduceBEq, Int.reduceBNe, Int.reduceBEq, List.take_succ_cons, List.take_zero, List.take_nil]
  refine call_one (S := seqReadSpec) rfl _ GaL.rfl ⟨V, f, seqKey which, rfl, hV, fun l hl => hV.len _ l hl, ?_⟩
  have hr := readOf_range f (seqKey which)
  generalize hn : readOf f (seqKey which) = n at hr hq1 hq2 ⊢
  unfold I64 at hr
  simp -dsimp only [Vm.E, List.lookup, Nat.reduceAdd, Nat.reduceBEq, Int.reduceBNe, Int.reduceBEq]
  cases c1 : decide (n < 0)
  · simp -dsimp only [Vm.E, List.lookup, Nat.reduceAdd, Nat.reduceBEq, Int.reduceBNe, Int.reduceBEq]
    cases c2 : decide (n > 4294967294)
    · have d1 := of_decide_eq_false c1
      have d2 := of_decide_eq_false c2
      simp -dsimp only [Vm.E, List.lookup, Nat.reduceAdd, Nat.reduceBEq, Int.reduceBNe, Int.reduceBEq]
      rw [wrap_i64 (by omega) (by omega)]
      have hq2' := hq2 (by omega)
      refine draw_cont [6] (.take 0 (.take 1 (.take 2 (.take 3 (.take 4 (.alt 5 (.alt 6 (.alt 7 (.alt 8 (.done) .stop) .stop) .stop) .stop)))))) (fun s h' => isView h' V (upd f (seqKey which) (some (be 8 (n + 1)))) ∧ Same h h' [V.ic] ∧ s 7 = .v (.int .i64 (n + 1)) ∧ s 8 = .v (.int .i64 0)) (by kernel_rfl) (by kernel_rfl) (by kernel_rfl) (by decide) ?_ ?_
      · simp -dsimp only [Vm.E, List.lookup, Nat.reduceAdd, Nat.reduceBEq, Int.reduceBNe, Int.reduceBEq, fo45_0, fo45_1, of24, of22, es59]
        refine bs_intro zr3 (by decide) (by decide) rfl rfl (by simp [solid, AV.cells]) ?_
        simp -dsimp only [Vm.E, List.lookup, Nat.reduceAdd, Nat.reduceBEq, Int.reduceBNe, Int.reduceBEq]
        refine call_one (S := packSpec) rfl _ GaL.rfl ⟨[n + 1], by simp, fun m hm => by simp at hm; subst hm; unfold I64; omega, rfl, ?_⟩
        rw [packOf_one]
        simp -dsimp only [Vm.E, List.lookup, Nat.reduceAdd, Nat.reduceBEq, Int.reduceBNe, Int.reduceBEq]
        refine call_one (S := vputSpec) rfl _ GaL.rfl ⟨V, f, seqKey which, be 8 (n + 1), rfl, hV, fun _ h' g1 g2 => ?_, fun hc => by rw [right_seq] at hc; cases hc⟩
        simp -dsimp only [Vm.E, List.lookup, Nat.reduceAdd, Nat.reduceBEq, Int.reduceBNe, Int.reduceBEq]
        exact ⟨g1, g2, trivial⟩
      · rintro s h' ⟨g1, g2, g3, g4⟩
        simp -dsimp only [Vm.E, List.lookup, Nat.reduceAdd, Nat.reduceBEq, Int.reduceBNe, Int.reduceBEq, g3, g4, Tryd.results7]
        exact hq2' h' g1 g2
    · have d2 := of_decide_eq_true c2
      simp -dsimp only [Vm.E, List.lookup, Nat.reduceAdd, Nat.reduceBEq, Int.reduceBNe, Int.reduceBEq, Tryd.results7]
      exact hq1 (.inr d2)
  · have d1 := of_decide_eq_true c1
    simp -dsimp only [Vm.E, List.lookup, Nat.reduceAdd, Nat.reduceBEq, Int.reduceBNe, Int.reduceBEq, Tryd.results7]
    exact hq1 (.inl d1)

end Go.Proofs
