/- Numbers that are given out: seqn. -/
import Derived.Test.YthfbpdipilajoaaGreatDoorL5
set_option linter.unusedSimpArgs false
set_option linter.unusedVariables false
namespace Go.Proofs.Lx
open Go.Vm
attribute [local irreducible] awpMake awpAppend awpCvX awpStrOf awpBinX awpSlice awpBS awpStore awpAlloc awpCopy awpIndex awpDraw awpIdxX awpFa awpField awpLookup awpUpdate awpDelete awpClear awpRange awpNext awpEntry awpBuild

def seqKey (which : Int) : List UInt8 := keyOf 83 [which]
def ofSpec : Vm.Spec := fun args h Q => ∃ iv which, args = [.ptr iv 0, .v (.int .i64 which)] ∧ Q (.agg [.ptr iv 0, .sl 1 ((seqKey which).map encB)]) h

theorem does_seqOf : Does Tryz.prog 92 ofSpec := by
  refine does_of_awp (good_cons does_key good_nil) Tryz.func92 rfl (by decide +kernel) (by decide +kernel) ?_
  rintro args h Q ⟨iv, which, rfl, hq⟩
  refine ⟨by simp [Tryz.f92], ?_⟩
  rw [awpFunc_some (by rfl)]
  have al := fun K => @alloc_agg Tryz.prog 136 _ z136 (by simp [plain]) K
  simp -dsimp only [Vm.E, List.lookup, Nat.reduceAdd, Nat.reduceBEq, Int.reduceBNe, Int.reduceBEq, Bool.true_beq, Bool.false_beq, al, es41]
  refine bs_intro zr3 (by decide) (by decide) rfl rfl (by simp [solid, AV.cells]) ?_
  simp -dsimp only [Vm.E, List.lookup, Nat.reduceAdd, Nat.reduceBEq, Int.reduceBNe, Int.reduceBEq, Bool.true_beq, Bool.false_beq]
  refine call_one (S := keySpec) rfl _ GaL.rfl ⟨83, [which], by simp, rfl, ?_⟩
  simp -dsimp only [Vm.E, List.lookup, Nat.reduceAdd, Nat.reduceBEq, Int.reduceBNe, Int.reduceBEq, Bool.true_beq, Bool.false_beq]
  refine build_intro fl136 z136 rfl rfl ?_
  simp -dsimp only [Vm.E, List.lookup, Nat.reduceAdd, Nat.reduceBEq, Int.reduceBNe, Int.reduceBEq, Bool.true_beq, Bool.false_beq, sz136]
  refine store_place _ rfl rfl rfl (by decide) ?_
  simp -dsimp only [Vm.E, List.lookup, Nat.reduceAdd, Nat.reduceBEq, Int.reduceBNe, Int.reduceBEq, Bool.true_beq, Bool.false_beq, Tryz.results92, of136]
  exact ⟨Nat.le_refl 2, hq⟩

/-- The number that stands at a key. -/
def readOf (f : Fun) (key : List UInt8) : Int :=
  match f key with
  | none => 0
  | some b => if b.length = 8 then num8 b 0 else 0
def seqReadSpec : Vm.Spec := fun args h Q => ∃ V f key, args = [.agg [.ptr V.iv 0, .sl 1 (key.map encB)]] ∧ isView h V f ∧ (∀ l, f key = some l → l.length ≤ 120) ∧ Q (.v (.int .i64 (readOf f key))) h

theorem does_seqRead : Does Tryz.prog 93 seqReadSpec := by
  refine does_of_awp (good_cons does_vget (good_cons does_unpack good_nil)) Tryz.func93 rfl (by decide +kernel) (by decide +kernel) ?_
  rintro args h Q ⟨V, f, key, rfl, hV, hlen, hq⟩
  refine ⟨by simp [Tryz.f93], ?_⟩
  rw [awpFunc_some (by rfl)]
  unfold readOf at hq
  simp -dsimp only [Vm.E, List.lookup, Nat.reduceAdd, Nat.reduceBEq, Int.reduceBNe, Int.reduceBEq, Bool.true_beq, Bool.false_beq, fo136_0, fo136_1, of26, of45]
  refine call_one (S := vgetSpec) rfl _ GaL.rfl ⟨V, f, key, rfl, hV, fun x l hx hf => ?_, fun x hx hf => ?_⟩
  · rw [hf] at hq
    have hl := hlen l hf
    have hg := hx.ga
    have hq : Q (.v (.int .i64 (if l.length = 8 then num8 l 0 else 0))) h := hq
    rcases hx with rfl | ⟨rfl, rfl⟩
    · simp -dsimp only [Vm.E, List.lookup, Nat.reduceAdd, Nat.reduceBEq, Int.reduceBNe, Int.reduceBEq, Bool.true_beq, Bool.false_beq]
      refine call_one (S := unpackSpec) rfl _ (GaL.cons hg GaL.rfl) ⟨l, 1, by omega, by unfold I64; omega, rfl, ?_⟩
      unfold unpackRes
      by_cases h8 : l.length = 8
      · rw [if_pos h8] at hq
        rw [if_neg (by omega), if_neg (by simp [h8])]
        simp -dsimp only [Vm.E, List.lookup, Nat.reduceAdd, Nat.reduceBEq, Int.reduceBNe, Int.reduceBEq, Bool.true_beq, Bool.false_beq, bne_self_eq_false, es41, as41]
        refine idx_ints (numsOf l 1) 0 (by simp [numsOf]) ?_
        simp -dsimp only [Vm.E, List.lookup, Nat.reduceAdd, Nat.reduceBEq, Int.reduceBNe, Int.reduceBEq, Bool.true_beq, Bool.false_beq, of3, Tryz.results93]
        simpa [numsOf] using hq
      · rw [if_neg h8] at hq
        rw [if_neg (by omega), if_pos (by omega)]
        simp -dsimp only [Vm.E, List.lookup, Nat.reduceAdd, Nat.reduceBEq, Int.reduceBNe, Int.reduceBEq, Bool.true_beq, Bool.false_beq, Tryz.results93]
        exact hq
    · simp -dsimp only [Vm.E, List.lookup, Nat.reduceAdd, Nat.reduceBEq, Int.reduceBNe, Int.reduceBEq, Bool.true_beq, Bool.false_beq]
      refine call_one (S := unpackSpec) rfl _ (GaL.cons hg GaL.rfl) ⟨[], 1, by simp, by unfold I64; omega, rfl, ?_⟩
      unfold unpackRes
      rw [if_neg (by omega), if_pos (by simp)]
      simp -dsimp only [Vm.E, List.lookup, Nat.reduceAdd, Nat.reduceBEq, Int.reduceBNe, Int.reduceBEq, Bool.true_beq, Bool.false_beq, Tryz.results93]
      simpa using hq
  · rw [hf] at hq
    rcases hx with rfl | ⟨-, rfl⟩
    · simp -dsimp only [Vm.E, List.lookup, Nat.reduceAdd, Nat.reduceBEq, Int.reduceBNe, Int.reduceBEq, Bool.true_beq, Bool.false_beq, Tryz.results93]
      exact hq
    · simp -dsimp only [Vm.E, List.lookup, Nat.reduceAdd, Nat.reduceBEq, Int.reduceBNe, Int.reduceBEq, Bool.true_beq, Bool.false_beq, Tryz.results93]
      exact hq

theorem isView.len {h : Heap} {V : VId} {f : Fun} (hV : isView h V f) (k l : List UInt8) (hf : f k = some l) : l.length ≤ 120 := by
  obtain ⟨chg, clk, mem, clk2, h1, h2, h3, h4, h5, h6, h7⟩ := hV
  rw [h7.1, nowOf] at hf
  split at hf
  · rename_i e he
    obtain ⟨-, x, l', b, hx, hl, hv⟩ := h5.1 e (mget_mem he)
    rw [hv] at hf
    cases b
    · simp only [shapeOf, bytesOf_isB hx, Option.some.injEq] at hf; subst hf; exact hl
    · simp [shapeOf] at hf
  · cases hm : mget (strK k) mem with
    | none => rw [hm] at hf; cases hf
    | some e =>
      rw [hm] at hf
      obtain ⟨-, l', hx, hl⟩ := h5.2 e (mget_mem hm)
      simp only [Option.map_some, bytesOf_isB hx, Option.some.injEq] at hf
      subst hf; exact hl

def seqLastSpec : Vm.Spec := fun args h Q => ∃ V f which, args = [.ptr V.iv 0, .v (.int .i64 which)] ∧ isView h V f ∧ Q (.v (.int .i64 (readOf f (seqKey which)))) h

theorem does_seqLast : Does Tryz.prog 25 seqLastSpec := by
  refine does_of_awp (good_cons does_seqOf (good_cons does_seqRead good_nil)) Tryz.func25 rfl (by decide +kernel) (by decide +kernel) ?_
  rintro args h Q ⟨V, f, which, rfl, hV, hq⟩
  refine ⟨by simp [Tryz.f25], ?_⟩
  rw [awpFunc_some (by rfl)]
  simp -dsimp only [Vm.E, List.lookup, Nat.reduceAdd, Nat.reduceBEq, Int.reduceBNe, Int.reduceBEq, Bool.true_beq, Bool.false_beq]
  refine call_one (S := ofSpec) rfl _ GaL.rfl ⟨V.iv, which, rfl, ?_⟩
  simp -dsimp only [Vm.E, List.lookup, Nat.reduceAdd, Nat.reduceBEq, Int.reduceBNe, Int.reduceBEq, Bool.true_beq, Bool.false_beq]
  refine call_one (S := seqReadSpec) rfl _ GaL.rfl ⟨V, f, seqKey which, rfl, hV, fun l hl => hV.len _ l hl, ?_⟩
  simp -dsimp only [Vm.E, List.lookup, Nat.reduceAdd, Nat.reduceBEq, Int.reduceBNe, Int.reduceBEq, Bool.true_beq, Bool.false_beq, Tryz.results25]
  exact hq

theorem readOf_range (f : Fun) (k : List UInt8) : I64 (readOf f k) := by
  unfold readOf
  split
  · unfold I64; omega
  · split
    · exact num8_range _ _
    · unfold I64; omega

def seqNextSpec : Vm.Spec := fun args h Q => ∃ V f which, args = [.ptr V.iv 0, .v (.int .i64 which)] ∧ isView h V f ∧
  (readOf f (seqKey which) < 0 ∨ 4294967294 < readOf f (seqKey which) → Q (.tup [.v (.int .i64 0), .v (.int .i64 9)]) h) ∧
  (¬ (readOf f (seqKey which) < 0 ∨ 4294967294 < readOf f (seqKey which)) → ∀ h', isView h' V (upd f (seqKey which) (some (be 8 (readOf f (seqKey which) + 1)))) → Same h h' [V.ic] →
    Q (.tup [.v (.int .i64 (readOf f (seqKey which) + 1)), .v (.int .i64 0)]) h')

theorem seqKey_length (which : Int) : (seqKey which).length = 5 := by
  simp [seqKey, keyOf, packs, be_length]
theorem packOf_one (n : Int) : packOf [n] = be 8 n := by simp [packOf, packs]
theorem right_seq (which n : Int) : rightKV (seqKey which) (be 8 n) = true := by
  simp [rightKV, seqKey_length, be_length]

theorem does_seqNext : Does Tryz.prog 23 seqNextSpec := by
  refine does_of_awp (good_cons does_seqOf (good_cons does_seqRead (good_cons does_pack (good_cons does_vput good_nil)))) Tryz.func23 rfl (by decide +kernel) (by decide +kernel) ?_
  rintro args h Q ⟨V, f, which, rfl, hV, hq1, hq2⟩
  refine ⟨by simp [Tryz.f23], ?_⟩
  rw [awpFunc_some (by rfl)]
  have al := fun K => @alloc_agg Tryz.prog 136 _ z136 (by simp [plain]) K
  simp -dsimp only [Vm.E, List.lookup, Nat.reduceAdd, Nat.reduceBEq, Int.reduceBNe, Int.reduceBEq, Bool.true_beq, Bool.false_beq]
  refine call_one (S := ofSpec) rfl _ GaL.rfl ⟨V.iv, which, rfl, ?_⟩
  simp -dsimp only [Vm.E, List.lookup, Nat.reduceAdd, Nat.reduceBEq, Int.reduceBNe, Int.reduceBEq, Bool.true_beq, Bool.false_beq, al, sz136]
  refine store_place _ rfl rfl rfl (by decide) ?_
  simp -dsimp only [Vm.E, List.lookup, Nat.reduceAdd, Nat.reduceBEq, Int.reduceBNe, Int.reduceBEq, Bool.true_beq, Bool.false_beq, of136]
  refine ⟨Nat.le_refl 2, ?_⟩
  have hp : (putCells [AV.v (.pointer none), AV.v (.slice none 0 0)] 0 [AV.ptr V.iv 0, AV.sl 1 ((seqKey which).map encB)]) = [AV.ptr V.iv 0, AV.sl 1 ((seqKey which).map encB)] := rfl
  rw [hp]
  simp -dsimp only [Vm.E, List.lookup, Nat.reduceAdd, Nat.reduceBEq, Int.reduceBNe, Int.reduceBEq, Bool.true_beq, Bool.false_beq, List.take_succ_cons, List.take_zero, List.take_nil]
  refine call_one (S := seqReadSpec) rfl _ GaL.rfl ⟨V, f, seqKey which, rfl, hV, fun l hl => hV.len _ l hl, ?_⟩
  have hr := readOf_range f (seqKey which)
  generalize hn : readOf f (seqKey which) = n at hr hq1 hq2 ⊢
  unfold I64 at hr
  simp -dsimp only [Vm.E, List.lookup, Nat.reduceAdd, Nat.reduceBEq, Int.reduceBNe, Int.reduceBEq, Bool.true_beq, Bool.false_beq]
  cases c1 : decide (n < 0)
  · simp -dsimp only [Vm.E, List.lookup, Nat.reduceAdd, Nat.reduceBEq, Int.reduceBNe, Int.reduceBEq, Bool.true_beq, Bool.false_beq]
    cases c2 : decide (n > 4294967294)
    · have d1 := of_decide_eq_false c1
      have d2 := of_decide_eq_false c2
      simp -dsimp only [Vm.E, List.lookup, Nat.reduceAdd, Nat.reduceBEq, Int.reduceBNe, Int.reduceBEq, Bool.true_beq, Bool.false_beq]
      rw [wrap_i64 (by omega) (by omega)]
      have hq2' := hq2 (by omega)
      refine draw_cont [6] (.take 0 (.take 1 (.take 2 (.take 3 (.take 4 (.alt 5 (.alt 6 (.alt 7 (.alt 8 (.done) .stop) .stop) .stop) .stop)))))) (fun s h' => isView h' V (upd f (seqKey which) (some (be 8 (n + 1)))) ∧ Same h h' [V.ic] ∧ s 7 = .v (.int .i64 (n + 1)) ∧ s 8 = .v (.int .i64 0)) (by kernel_rfl) (by kernel_rfl) (by kernel_rfl) (by decide) ?_ ?_
      · simp -dsimp only [Vm.E, List.lookup, Nat.reduceAdd, Nat.reduceBEq, Int.reduceBNe, Int.reduceBEq, Bool.true_beq, Bool.false_beq, fo136_0, fo136_1, of26, of45, es41]
        refine bs_intro zr3 (by decide) (by decide) rfl rfl (by simp [solid, AV.cells]) ?_
        simp -dsimp only [Vm.E, List.lookup, Nat.reduceAdd, Nat.reduceBEq, Int.reduceBNe, Int.reduceBEq, Bool.true_beq, Bool.false_beq]
        refine call_one (S := packSpec) rfl _ GaL.rfl ⟨[n + 1], by simp, fun m hm => by simp at hm; subst hm; unfold I64; omega, rfl, ?_⟩
        rw [packOf_one]
        simp -dsimp only [Vm.E, List.lookup, Nat.reduceAdd, Nat.reduceBEq, Int.reduceBNe, Int.reduceBEq, Bool.true_beq, Bool.false_beq]
        refine call_one (S := vputSpec) rfl _ GaL.rfl ⟨V, f, seqKey which, be 8 (n + 1), rfl, hV, fun _ h' g1 g2 => ?_, fun hc => by rw [right_seq] at hc; cases hc⟩
        simp -dsimp only [Vm.E, List.lookup, Nat.reduceAdd, Nat.reduceBEq, Int.reduceBNe, Int.reduceBEq, Bool.true_beq, Bool.false_beq]
        exact ⟨g1, g2, trivial⟩
      · rintro s h' ⟨g1, g2, g3, g4⟩
        simp -dsimp only [Vm.E, List.lookup, Nat.reduceAdd, Nat.reduceBEq, Int.reduceBNe, Int.reduceBEq, Bool.true_beq, Bool.false_beq, g3, g4, Tryz.results23]
        exact hq2' h' g1 g2
    · have d2 := of_decide_eq_true c2
      simp -dsimp only [Vm.E, List.lookup, Nat.reduceAdd, Nat.reduceBEq, Int.reduceBNe, Int.reduceBEq, Bool.true_beq, Bool.false_beq, Tryz.results23]
      exact hq1 (.inr d2)
  · have d1 := of_decide_eq_true c1
    simp -dsimp only [Vm.E, List.lookup, Nat.reduceAdd, Nat.reduceBEq, Int.reduceBNe, Int.reduceBEq, Bool.true_beq, Bool.false_beq, Tryz.results23]
    exact hq1 (.inl d1)

end Go.Proofs.Lx
