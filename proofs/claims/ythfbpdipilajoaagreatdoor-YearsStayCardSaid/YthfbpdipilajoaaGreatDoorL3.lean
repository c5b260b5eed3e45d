/- Numbers' bytes: the layers field and keys. -/
import Derived.Test.YthfbpdipilajoaaGreatDoorL1
set_option linter.unusedSimpArgs false
set_option linter.unusedVariables false
namespace Go.Proofs.Lx
open Go.Vm
attribute [local irreducible] awpMake awpAppend awpCvX awpStrOf awpBinX awpSlice awpBS awpStore awpAlloc awpCopy awpIndex awpDraw awpIdxX awpFa awpField awpLookup awpUpdate awpDelete awpClear awpRange awpNext awpEntry awpBuild

def I64 (n : Int) : Prop := -9223372036854775808 ≤ n ∧ n ≤ 9223372036854775807
def encI (n : Int) : AV := .v (.int .i64 n)
theorem encI_cells (n : Int) : (encI n).cells = [encI n] := id rfl
theorem val_encI (n : Int) : val (encI n) = encI n := id rfl

theorem idx_ints (l : List Int) (i : Nat) (hi : i < l.length) {e : Nat} {K : AV → Prop} (hK : K (.eptr [.v (.int .i64 l[i])])) : awpIdx (some (e, 1)) (.sl 1 (l.map encI)) (.v (.int .i64 i)) K := by
  refine idx_intro (xs := l.map encI) (by simp [asSl]) (by simp; omega) (fun x hx => ?_)
  have hx' : x = encI l[i] := by simp [hi] at hx; exact hx.symm
  subst hx'; exact hK

/-- Numbers' bytes, so many each. -/
def packs (size : Nat) (l : List Int) : List UInt8 := l.flatMap (be size)
theorem packs_take (size : Nat) (l : List Int) (i : Nat) (hi : i < l.length) : packs size (l.take (i + 1)) = packs size (l.take i) ++ be size l[i] := by
  rw [packs, List.take_succ_eq_append_getElem hi, List.flatMap_append]; simp [packs]
theorem be_length (size : Nat) (n : Int) : (be size n).length = size := by simp [be]
theorem packs_length (size : Nat) (l : List Int) : (packs size l).length = l.length * size := by
  induction l with
  | nil => simp [packs]
  | cons x l ih => simp only [packs, List.flatMap_cons, List.length_append, be_length, List.length_cons] at ih ⊢; rw [ih, Nat.add_mul]; omega
theorem putOf8 (l : List UInt8) (n : Int) : putOf l n 8 = l ++ be 8 n := by simp [putOf, fits]

def packOf (l : List Int) : List UInt8 := packs 8 (l.take 15)
def packSpec : Vm.Spec := fun args h Q => ∃ l : List Int, l.length ≤ 4611686018427387904 ∧ (∀ n ∈ l, I64 n) ∧ args = [.sl 1 (l.map encI)] ∧ Q (.own true 5 1 ((packOf l).map encB)) h

theorem min_len (n : Nat) (k : Nat) : (if (k : Int) < (n : Int) then (k : Int) else (n : Int)) = ((min n k : Nat) : Int) := by
  by_cases h : k < n
  · rw [if_pos (by omega)]; omega
  · rw [if_neg (by omega)]; omega

theorem does_pack : Does Tryz.prog 94 packSpec := by
  refine does_of_awp (good_cons does_put good_nil) Tryz.func94 rfl (by decide +kernel) (by decide +kernel) ?_
  rintro args h Q ⟨l, hl, hn, rfl, hq⟩
  refine ⟨by simp [Tryz.f94], ?_⟩
  rw [awpFunc_some (by rfl)]
  simp -dsimp only [Vm.E, List.lookup, Nat.reduceAdd, Nat.reduceBEq, Int.reduceBNe, Int.reduceBEq, Bool.true_beq, Bool.false_beq, Tryz.underlying41]
  have e1 : (if (15 : Int) < l.length then (15 : Int) else l.length) = ((min l.length 15 : Nat) : Int) := min_len l.length 15
  rw [e1]
  refine slice_h es41 (by omega) (by simp; omega) ?_
  rw [Int.toNat_natCast]
  have e2 : (l.map encI).take (min l.length 15) = (l.take 15).map encI := by
    rw [← List.map_take]
    congr 1
    rcases Nat.le_total l.length 15 with h1 | h1
    · rw [Nat.min_eq_left h1, List.take_of_length_le (Nat.le_refl _), List.take_of_length_le h1]
    · rw [Nat.min_eq_right h1]
  rw [e2]
  simp -dsimp only [Vm.E, List.lookup, Nat.reduceAdd, Nat.reduceBEq, Int.reduceBNe, Int.reduceBEq, Bool.true_beq, Bool.false_beq, Tryz.underlying41]
  have hm : ∀ n ∈ l.take 15, I64 n := fun n h => hn n (List.mem_of_mem_take h)
  have hk : (l.take 15).length ≤ 15 := by rw [List.length_take]; omega
  unfold packOf at hq
  generalize l.take 15 = r at hm hk hq ⊢
  refine awp_loop (fun m s h' => ∃ i : Nat, i + m = r.length ∧ h' = h ∧ s = mk [(3, .own true 5 1 ((packs 8 (r.take i)).map encB)), (10, .sl 1 (r.map encI)), (11, .v (.int .i64 r.length)), (12, .v (.int .i64 i))])
    r.length _ (le_mk _ ?_) ⟨0, by omega, rfl, rfl⟩ ?_
  · simp only [List.forall_mem_cons, List.not_mem_nil, false_imp_iff, implies_true, and_true]
    simp -dsimp only [Vm.E, List.lookup, Nat.reduceAdd, Nat.reduceBEq, Int.reduceBNe, Int.reduceBEq, Bool.true_beq, Bool.false_beq]
    exact ⟨.nil _ _ _ (by decide), .refl _, .refl _, .refl _⟩
  · rintro m s h' ⟨i, hi, rfl, rfl⟩
    simp -dsimp only [Vm.E, List.lookup, Nat.reduceAdd, Nat.reduceBEq, Int.reduceBNe, Int.reduceBEq, Bool.true_beq, Bool.false_beq]
    refine cond_intro (fun hc => ?_) (fun hc => ?_)
    · have hlt : i < r.length := by have := of_decide_eq_true hc; omega
      simp -dsimp only [Vm.E, List.lookup, Nat.reduceAdd, Nat.reduceBEq, Int.reduceBNe, Int.reduceBEq, Bool.true_beq, Bool.false_beq, es41, as41]
      refine idx_ints r i hlt ?_
      simp -dsimp only [Vm.E, List.lookup, Nat.reduceAdd, Nat.reduceBEq, Int.reduceBNe, Int.reduceBEq, Bool.true_beq, Bool.false_beq, of3]
      have hb := packs_length 8 (r.take i)
      have hti : (r.take i).length ≤ i := by rw [List.length_take]; omega
      have hr := hm r[i] (List.getElem_mem hlt)
      refine call_one (S := putSpec) rfl _ GaL.rfl ⟨packs 8 (r.take i), r[i], 8, by omega, hr.1, hr.2, rfl, ?_⟩
      rw [putOf8, ← packs_take 8 r i hlt]
      simp -dsimp only [Vm.E, List.lookup, Nat.reduceAdd, Nat.reduceBEq, Int.reduceBNe, Int.reduceBEq, Bool.true_beq, Bool.false_beq]
      refine kept_intro ⟨r.length - (i + 1), by omega, _, le_mk [(3, .own true 5 1 ((packs 8 (r.take (i + 1))).map encB)), (10, .sl 1 (r.map encI)), (11, .v (.int .i64 r.length)), (12, .v (.int .i64 (i + 1 : Nat)))] ?_, i + 1, by omega, rfl, rfl⟩
      simp only [List.forall_mem_cons, List.not_mem_nil, false_imp_iff, implies_true, and_true]
      simp -dsimp only [Vm.E, List.lookup, Nat.reduceAdd, Nat.reduceBEq, Int.reduceBNe, Int.reduceBEq, Bool.true_beq, Bool.false_beq]
      rw [wrap_i64 (by omega) (by omega)]
      exact ⟨.refl _, .refl _, .refl _, .refl _⟩
    · have hge : ¬ i < r.length := by have := of_decide_eq_false hc; omega
      simp -dsimp only [Vm.E, List.lookup, Nat.reduceAdd, Nat.reduceBEq, Int.reduceBNe, Int.reduceBEq, Bool.true_beq, Bool.false_beq, Tryz.results94]
      rw [List.take_of_length_le (by omega)]
      exact hq

/-! Keys. -/
def clampK (n : Int) : Int := if (4294967295 : Int) < (if n < 0 then 0 else n) then 4294967295 else (if n < 0 then 0 else n)
theorem clampK_range (n : Int) : 0 ≤ clampK n ∧ clampK n ≤ 4294967295 := by unfold clampK; split <;> split <;> omega
def keyOf (tag : UInt8) (l : List Int) : List UInt8 := tag :: packs 4 ((l.take 7).map clampK)
def keySpec : Vm.Spec := fun args h Q => ∃ (tag : UInt8) (l : List Int), l.length ≤ 4611686018427387904 ∧ args = [.v (.int .u8 tag.toNat), .sl 1 (l.map encI)] ∧ Q (.own true 5 1 ((keyOf tag l).map encB)) h

theorem putOf4 (l : List UInt8) (n : Int) (h0 : 0 ≤ n) (h1 : n ≤ 4294967295) : putOf l n 4 = l ++ be 4 n := by
  have : fits n 4 = true := by
    simp only [fits, sized]
    have e : ((256 : Int) ^ (4 : Int).toNat) = 4294967296 := by decide
    rw [e]
    simp; omega
  simp [putOf, this]

theorem does_key : Does Tryz.prog 111 keySpec := by
  refine does_of_awp (good_cons does_put good_nil) Tryz.func111 rfl (by decide +kernel) (by decide +kernel) ?_
  rintro args h Q ⟨tag, l, hl, rfl, hq⟩
  refine ⟨by simp [Tryz.f111], ?_⟩
  rw [awpFunc_some (by rfl)]
  simp -dsimp only [Vm.E, List.lookup, Nat.reduceAdd, Nat.reduceBEq, Int.reduceBNe, Int.reduceBEq, Bool.true_beq, Bool.false_beq, es45]
  refine bs_intro zr5 (by decide) (by decide) rfl rfl (by simp [solid, AV.cells]) ?_
  simp -dsimp only [Vm.E, List.lookup, Nat.reduceAdd, Nat.reduceBEq, Int.reduceBNe, Int.reduceBEq, Bool.true_beq, Bool.false_beq, Tryz.underlying41]
  have e1 : (if (7 : Int) < l.length then (7 : Int) else l.length) = ((min l.length 7 : Nat) : Int) := min_len l.length 7
  rw [e1]
  refine slice_h es41 (by omega) (by simp; omega) ?_
  rw [Int.toNat_natCast]
  have e2 : (l.map encI).take (min l.length 7) = (l.take 7).map encI := by
    rw [← List.map_take]
    congr 1
    rcases Nat.le_total l.length 7 with h1 | h1
    · rw [Nat.min_eq_left h1, List.take_of_length_le (Nat.le_refl _), List.take_of_length_le h1]
    · rw [Nat.min_eq_right h1]
  rw [e2]
  simp -dsimp only [Vm.E, List.lookup, Nat.reduceAdd, Nat.reduceBEq, Int.reduceBNe, Int.reduceBEq, Bool.true_beq, Bool.false_beq, Tryz.underlying41]
  have hk : (l.take 7).length ≤ 7 := by rw [List.length_take]; omega
  unfold keyOf at hq
  generalize l.take 7 = r at hk hq ⊢
  refine awp_loop (fun m s h' => ∃ i : Nat, i + m = r.length ∧ h' = h ∧ s = mk [(5, .own true 5 1 ((tag :: packs 4 ((r.map clampK).take i)).map encB)), (14, .sl 1 (r.map encI)), (15, .v (.int .i64 r.length)), (16, .v (.int .i64 i))])
    r.length _ (le_mk _ ?_) ⟨0, by omega, rfl, rfl⟩ ?_
  · simp only [List.forall_mem_cons, List.not_mem_nil, false_imp_iff, implies_true, and_true]
    simp -dsimp only [Vm.E, List.lookup, Nat.reduceAdd, Nat.reduceBEq, Int.reduceBNe, Int.reduceBEq, Bool.true_beq, Bool.false_beq]
    exact ⟨.refl _, .refl _, .refl _, .refl _⟩
  · rintro m s h' ⟨i, hi, rfl, rfl⟩
    simp -dsimp only [Vm.E, List.lookup, Nat.reduceAdd, Nat.reduceBEq, Int.reduceBNe, Int.reduceBEq, Bool.true_beq, Bool.false_beq]
    refine cond_intro (fun hc => ?_) (fun hc => ?_)
    · have hlt : i < r.length := by have := of_decide_eq_true hc; omega
      simp -dsimp only [Vm.E, List.lookup, Nat.reduceAdd, Nat.reduceBEq, Int.reduceBNe, Int.reduceBEq, Bool.true_beq, Bool.false_beq, es41, as41]
      refine idx_ints r i hlt ?_
      simp -dsimp only [Vm.E, List.lookup, Nat.reduceAdd, Nat.reduceBEq, Int.reduceBNe, Int.reduceBEq, Bool.true_beq, Bool.false_beq, of3]
      have hlt' : i < (r.map clampK).length := by simpa using hlt
      have hb := packs_length 4 ((r.map clampK).take i)
      have hti : ((r.map clampK).take i).length ≤ i := by rw [List.length_take]; omega
      have hr := clampK_range r[i]
      have hget : (r.map clampK)[i] = clampK r[i] := by simp
      refine call_one (S := putSpec) rfl _ GaL.rfl ⟨tag :: packs 4 ((r.map clampK).take i), clampK r[i], 4, by simp only [List.length_cons]; omega, by omega, by omega, rfl, ?_⟩
      rw [putOf4 _ _ hr.1 hr.2, List.cons_append, ← hget, ← packs_take 4 (r.map clampK) i hlt']
      simp -dsimp only [Vm.E, List.lookup, Nat.reduceAdd, Nat.reduceBEq, Int.reduceBNe, Int.reduceBEq, Bool.true_beq, Bool.false_beq]
      refine kept_intro ⟨r.length - (i + 1), by omega, _, le_mk [(5, .own true 5 1 ((tag :: packs 4 ((r.map clampK).take (i + 1))).map encB)), (14, .sl 1 (r.map encI)), (15, .v (.int .i64 r.length)), (16, .v (.int .i64 (i + 1 : Nat)))] ?_, i + 1, by omega, rfl, rfl⟩
      simp only [List.forall_mem_cons, List.not_mem_nil, false_imp_iff, implies_true, and_true]
      simp -dsimp only [Vm.E, List.lookup, Nat.reduceAdd, Nat.reduceBEq, Int.reduceBNe, Int.reduceBEq, Bool.true_beq, Bool.false_beq]
      rw [wrap_i64 (by omega) (by omega)]
      exact ⟨.refl _, .refl _, .refl _, .refl _⟩
    · have hge : ¬ i < r.length := by have := of_decide_eq_false hc; omega
      simp -dsimp only [Vm.E, List.lookup, Nat.reduceAdd, Nat.reduceBEq, Int.reduceBNe, Int.reduceBEq, Bool.true_beq, Bool.false_beq, Tryz.results111]
      rw [List.take_of_length_le (l := r.map clampK) (by simp; omega)]
      exact hq

/-! Numbers out of bytes. -/
def num8 (b : List UInt8) (i : Nat) : Int := (getOf ((b.drop (8 * i)).take 8)).toInt
def numsOf (b : List UInt8) (n : Nat) : List Int := (List.range n).map (num8 b)
theorem num8_range (b : List UInt8) (i : Nat) : I64 (num8 b i) := by
  have h1 := BitVec.toInt_lt (x := getOf ((b.drop (8 * i)).take 8))
  have h2 := BitVec.le_toInt (x := getOf ((b.drop (8 * i)).take 8))
  unfold I64 num8
  omega
def unpackRes (b : List UInt8) (many : Int) : List AV :=
  if many < 0 ∨ 15 < many then [.v (.slice none 0 0), .v (.int .i64 1)]
  else if (b.length : Int) ≠ 8 * many then [.v (.slice none 0 0), .v (.int .i64 4)]
  else [.sl 1 ((numsOf b many.toNat).map encI), .v (.int .i64 0)]
def unpackSpec : Vm.Spec := fun args h Q => ∃ (b : List UInt8) (many : Int), b.length ≤ 4611686018427387904 ∧ I64 many ∧ args = [.sl 1 (b.map encB), .v (.int .i64 many)] ∧ Q (.tup (unpackRes b many)) h

theorem getRes8 (b : List UInt8) (i : Nat) (h : 8 * i + 8 ≤ b.length) : getRes b ((8 * i : Nat) : Int) 8 = [.v (.int .i64 (num8 b i)), .v (.int .i64 0)] := by
  unfold getRes num8
  rw [if_neg (by simp [sized]; omega), if_neg (by omega), Int.toNat_natCast]
  rfl

theorem plain0i : plain (Value.int IntKind.i64 0) = true ∨ ∃ cs, Value.int IntKind.i64 0 = Value.agg cs ∧ cs.all plain = true := .inl rfl

theorem does_unpack : Does Tryz.prog 158 unpackSpec := by
  refine does_of_awp (good_cons does_get good_nil) Tryz.func158 rfl (by decide +kernel) (by decide +kernel) ?_
  rintro args h Q ⟨b, many, hl, hm, rfl, hq⟩
  refine ⟨by simp [Tryz.f158], ?_⟩
  rw [awpFunc_some (by rfl)]
  unfold unpackRes at hq
  simp -dsimp only [Vm.E, List.lookup, Nat.reduceAdd, Nat.reduceBEq, Int.reduceBNe, Int.reduceBEq, Bool.true_beq, Bool.false_beq]
  cases h0 : decide (many < 0)
  · have h0' : ¬ many < 0 := of_decide_eq_false h0
    simp -dsimp only [Vm.E, List.lookup, Nat.reduceAdd, Nat.reduceBEq, Int.reduceBNe, Int.reduceBEq, Bool.true_beq, Bool.false_beq]
    cases h1 : decide (many > 15)
    · have h1' : ¬ 15 < many := of_decide_eq_false h1
      simp -dsimp only [Vm.E, List.lookup, Nat.reduceAdd, Nat.reduceBEq, Int.reduceBNe, Int.reduceBEq, Bool.true_beq, Bool.false_beq, Tryz.underlying45]
      rw [wrap_i64 (by omega) (by omega)]
      rw [if_neg (by omega)] at hq
      cases h2 : ((b.length : Int) != 8 * many)
      · have h2' : (b.length : Int) = 8 * many := by simpa using h2
        rw [if_neg (by omega)] at hq
        obtain ⟨k, rfl⟩ : ∃ k : Nat, many = k := ⟨many.toNat, by omega⟩
        rw [Int.toNat_natCast] at hq
        have hk : k ≤ 15 := by omega
        simp -dsimp only [Vm.E, List.lookup, Nat.reduceAdd, Nat.reduceBEq, Int.reduceBNe, Int.reduceBEq, Bool.true_beq, Bool.false_beq]
        refine make_intro ei41 z3 plain0i (by omega) (by omega) (by omega) (by omega) ?_
        rw [Int.toNat_natCast, cst_int]
        simp -dsimp only [Vm.E, List.lookup, Nat.reduceAdd, Nat.reduceBEq, Int.reduceBNe, Int.reduceBEq, Bool.true_beq, Bool.false_beq, Tryz.underlying41]
        rw [List.length_replicate]
        refine awp_loop (fun m s h' => ∃ i : Nat, i + m = k ∧ h' = h ∧ s = mk [(0, .sl 1 (b.map encB)), (6, .own true 3 1 ((numsOf b i).map encI ++ List.replicate (k - i) (encI 0))), (22, .v (.int .i64 k)), (23, .v (.int .i64 i))])
          k _ (le_mk _ ?_) ⟨0, by omega, rfl, rfl⟩ ?_
        · simp only [List.forall_mem_cons, List.not_mem_nil, false_imp_iff, implies_true, and_true]
          simp -dsimp only [Vm.E, List.lookup, Nat.reduceAdd, Nat.reduceBEq, Int.reduceBNe, Int.reduceBEq, Bool.true_beq, Bool.false_beq]
          exact ⟨.refl _, by simp [numsOf, encI], .refl _, .refl _⟩
        · rintro m s h' ⟨i, hi, rfl, rfl⟩
          simp -dsimp only [Vm.E, List.lookup, Nat.reduceAdd, Nat.reduceBEq, Int.reduceBNe, Int.reduceBEq, Bool.true_beq, Bool.false_beq]
          refine cond_intro (fun hc => ?_) (fun hc => ?_)
          · have hlt : i < k := by have := of_decide_eq_true hc; omega
            simp -dsimp only [Vm.E, List.lookup, Nat.reduceAdd, Nat.reduceBEq, Int.reduceBNe, Int.reduceBEq, Bool.true_beq, Bool.false_beq]
            rw [wrap_i64 (by omega) (by omega)]
            refine call_one (S := getSpec) rfl _ GaL.rfl ⟨b, ((8 * i : Nat) : Int), 8, hl, by omega, by simp, ?_⟩
            rw [getRes8 b i (by omega)]
            simp -dsimp only [Vm.E, List.lookup, Nat.reduceAdd, Nat.reduceBEq, Int.reduceBNe, Int.reduceBEq, Bool.true_beq, Bool.false_beq, es41, as41]
            have hlen : ((numsOf b i).map encI ++ List.replicate (k - i) (encI 0)).length = k := by simp [numsOf]; omega
            refine idxO_intro (xs := (numsOf b i).map encI ++ List.replicate (k - i) (encI 0)) (by omega) (by rw [hlen]; omega) ?_
            rw [Int.toNat_natCast]
            simp -dsimp only [Vm.E, List.lookup, Nat.reduceAdd, Nat.reduceBEq, Int.reduceBNe, Int.reduceBEq, Bool.true_beq, Bool.false_beq, sz3]
            have hgi : ((numsOf b i).map encI ++ List.replicate (k - i) (encI 0))[i]? = some (encI 0) := by
              rw [List.getElem?_append_right (by simp [numsOf])]
              simp [numsOf, List.getElem?_replicate]; omega
            refine store_elt 3 ((numsOf b i).map encI ++ List.replicate (k - i) (encI 0)) rfl hgi rfl rfl (by decide) rfl ?_
            have hset : ((numsOf b i).map encI ++ List.replicate (k - i) (encI 0)).set i (reCell (encI 0) (putCells (encI 0).cells 0 (AV.v (.int .i64 (num8 b i))).cells)) = (numsOf b (i + 1)).map encI ++ List.replicate (k - (i + 1)) (encI 0) := by
              have e : reCell (encI 0) (putCells (encI 0).cells 0 (AV.v (.int .i64 (num8 b i))).cells) = encI (num8 b i) := rfl
              rw [e, List.set_append_right _ _ (by simp [numsOf])]
              have e2 : i - ((numsOf b i).map encI).length = 0 := by simp [numsOf]
              rw [e2, show k - i = (k - (i + 1)) + 1 by omega, List.replicate_succ, List.set_cons_zero]
              simp [numsOf, List.range_succ]
            rw [hset]
            simp -dsimp only [Vm.E, List.lookup, Nat.reduceAdd, Nat.reduceBEq, Int.reduceBNe, Int.reduceBEq, Bool.true_beq, Bool.false_beq]
            refine kept_intro ⟨k - (i + 1), by omega, _, le_mk [(0, .sl 1 (b.map encB)), (6, .own true 3 1 ((numsOf b (i + 1)).map encI ++ List.replicate (k - (i + 1)) (encI 0))), (22, .v (.int .i64 k)), (23, .v (.int .i64 (i + 1 : Nat)))] ?_, i + 1, by omega, rfl, rfl⟩
            simp only [List.forall_mem_cons, List.not_mem_nil, false_imp_iff, implies_true, and_true]
            simp -dsimp only [Vm.E, List.lookup, Nat.reduceAdd, Nat.reduceBEq, Int.reduceBNe, Int.reduceBEq, Bool.true_beq, Bool.false_beq]
            rw [wrap_i64 (by omega) (by omega)]
            exact ⟨.refl _, .refl _, .refl _, .refl _⟩
          · have hge : ¬ i < k := by have := of_decide_eq_false hc; omega
            have : i = k := by omega
            subst this
            simp -dsimp only [Vm.E, List.lookup, Nat.reduceAdd, Nat.reduceBEq, Int.reduceBNe, Int.reduceBEq, Bool.true_beq, Bool.false_beq, Tryz.results158]
            simpa using hq
      · have h2' : ¬ (b.length : Int) = 8 * many := by simpa using h2
        rw [if_pos h2'] at hq
        simp -dsimp only [Vm.E, List.lookup, Nat.reduceAdd, Nat.reduceBEq, Int.reduceBNe, Int.reduceBEq, Bool.true_beq, Bool.false_beq, Tryz.results158]
        exact hq
    · have h1' : 15 < many := of_decide_eq_true h1
      rw [if_pos (.inr h1')] at hq
      simp -dsimp only [Vm.E, List.lookup, Nat.reduceAdd, Nat.reduceBEq, Int.reduceBNe, Int.reduceBEq, Bool.true_beq, Bool.false_beq, Tryz.results158]
      exact hq
  · have h0' : many < 0 := of_decide_eq_true h0
    rw [if_pos (.inl h0')] at hq
    simp -dsimp only [Vm.E, List.lookup, Nat.reduceAdd, Nat.reduceBEq, Int.reduceBNe, Int.reduceBEq, Bool.true_beq, Bool.false_beq, Tryz.results158]
    exact hq

end Go.Proofs.Lx
