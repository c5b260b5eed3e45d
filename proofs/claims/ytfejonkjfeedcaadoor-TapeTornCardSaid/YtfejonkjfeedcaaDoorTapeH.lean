/- Few bytes; what a tape holds. -/
import Derived.Test.YtfejonkjfeedcaaDoorTapeG
set_option linter.unusedSimpArgs false
set_option linter.unusedVariables false
namespace Go.Proofs
open Go.Vm
attribute [local irreducible] awpMake awpAppend awpCvX awpStrOf awpBinX awpSlice awpBS awpStore awpAlloc awpCopy awpIndex awpDraw awpIdxX awpFa awpField

def sumLen (l : List (List UInt8)) : Nat := (l.map List.length).sum
def fewOf (l : List (List UInt8)) : Bool := decide (l.length ≤ 40) && l.all (fun b => decide (b.length ≤ 600)) && decide (sumLen l ≤ 6000)
def fewSpec : Vm.Spec := fun args h Q => ∃ l : List (List UInt8), l.length ≤ maxLen ∧ args = [.sl 1 (l.map encL)] ∧ Q (.v (.bool (fewOf l))) h

set_option maxHeartbeats 1600000 in
theorem does_few : Does Tryd.prog 15 fewSpec := by
  refine does_of_awp good0 Tryd.func15 rfl (by decide +kernel) (by decide +kernel) ?_
  rintro args h Q ⟨l, hl, rfl, hq⟩
  refine ⟨by simp [Tryd.f15], ?_⟩
  rw [awpFunc_some (by rfl)]
  simp -dsimp only [Vm.E, List.lookup, Nat.reduceAdd, Nat.reduceBEq, Tryd.underlying27]
  refine awp_loop (fun n s h' => ∃ i : Nat, i + n = l.length ∧ h' = h ∧ i ≤ 40 ∧ (l.take i).all (fun b => decide (b.length ≤ 600)) = true ∧ sumLen (l.take i) ≤ 600 * i ∧ s = mk [(3, .v (.int .i64 (sumLen (l.take i)))), (6, .sl 1 (l.map encL)), (7, .v (.int .i64 l.length)), (8, .v (.int .i64 i))])
    l.length _ (le_mk _ ?_) ⟨0, by omega, rfl, by omega, rfl, by simp [sumLen], rfl⟩ ?_
  · simp [init_get, sumLen]
  · rintro n s h' ⟨i, hi, rfl, hi40, hall, hsum, rfl⟩
    simp -dsimp only [Vm.E, List.lookup, Nat.reduceAdd, Nat.reduceBEq]
    refine cond_intro (fun hc => ?_) (fun hc => ?_)
    · have hlt : i < l.length := by have := of_decide_eq_true hc; omega
      have htk : l.take (i + 1) = l.take i ++ [l[i]] := List.take_succ_eq_append_getElem hlt
      simp -dsimp only [Vm.E, List.lookup, Nat.reduceAdd, Nat.reduceBEq, es27, as27]
      refine idx_list l i hlt ?_
      simp -dsimp only [Vm.E, List.lookup, Nat.reduceAdd, Nat.reduceBEq, of22]
      cases h40 : decide ((i : Int) ≥ 40)
      · have h40' : i < 40 := by have := of_decide_eq_false h40; omega
        simp -dsimp only [Vm.E, List.lookup, Nat.reduceAdd, Nat.reduceBEq, Tryd.underlying22]
        refine cond_intro (fun hd => ?_) (fun hd => ?_)
        · have hbig : ¬ l[i].length ≤ 600 := by have := of_decide_eq_true hd; omega
          simp -dsimp only [Vm.E, List.lookup, Nat.reduceAdd, Nat.reduceBEq, Tryd.results15]
          have : fewOf l = false := by
            have : (l.all fun b => decide (b.length ≤ 600)) = false := by
              cases ha : l.all fun b => decide (b.length ≤ 600)
              · rfl
              · have := List.all_eq_true.1 ha l[i] (List.getElem_mem hlt)
                simp at this; omega
            simp [fewOf, this]
          rw [this] at hq
          exact hq
        · have hsm : l[i].length ≤ 600 := by have := of_decide_eq_false hd; omega
          simp -dsimp only [Vm.E, List.lookup, Nat.reduceAdd, Nat.reduceBEq, Tryd.underlying22]
          have hs1 : sumLen (l.take (i + 1)) = sumLen (l.take i) + l[i].length := by simp only [sumLen, htk, List.map_append, List.sum_append, List.map_cons, List.map_nil, List.sum_cons, List.sum_nil, Nat.add_zero]
          refine kept_intro ⟨l.length - (i + 1), by omega, _, le_mk [(3, .v (.int .i64 (sumLen (l.take (i + 1))))), (6, .sl 1 (l.map encL)), (7, .v (.int .i64 l.length)), (8, .v (.int .i64 (i + 1 : Nat)))] ?_, i + 1, by omega, rfl, by omega, ?_, by omega, rfl⟩
          · simp only [List.forall_mem_cons, List.not_mem_nil, false_imp_iff, implies_true, and_true]
            simp -dsimp only [Vm.E, List.lookup, Nat.reduceAdd, Nat.reduceBEq]
            have e2 : ((sumLen (l.take i) : Nat) : Int) + (l[i].length : Int) = ((sumLen (l.take (i + 1)) : Nat) : Int) := by omega
            rw [wrap_i64 (n := (sumLen (l.take i) : Int) + l[i].length) (by omega) (by omega), e2, wrap_i64 (by omega) (by omega)]
            exact ⟨.refl _, .refl _, .refl _, .refl _⟩
          · simp only [htk, List.all_append, hall, List.all_cons, List.all_nil, hsm, decide_true, Bool.and_self]
      · have h40' : ¬ l.length ≤ 40 := by have := of_decide_eq_true h40; omega
        simp -dsimp only [Vm.E, List.lookup, Nat.reduceAdd, Nat.reduceBEq, Tryd.results15]
        have : fewOf l = false := by simp [fewOf, h40']
        rw [this] at hq
        exact hq
    · have hge : ¬ i < l.length := by have := of_decide_eq_false hc; omega
      rw [List.take_of_length_le (by omega)] at hall hsum
      simp -dsimp only [Vm.E, List.lookup, Nat.reduceAdd, Nat.reduceBEq, Tryd.results15]
      rw [List.take_of_length_le (by omega)]
      have : fewOf l = decide ((sumLen l : Int) ≤ 6000) := by
        have h1 : l.length ≤ 40 := by omega
        simp only [fewOf, h1, hall, decide_true, Bool.true_and]
        by_cases h : sumLen l ≤ 6000
        · have h' : (sumLen l : Int) ≤ 6000 := by omega
          simp [h, h']
        · have h' : ¬ (sumLen l : Int) ≤ 6000 := by omega
          simp [h, h']
      rw [this] at hq
      exact hq

/-- The piece with which bytes begin. -/
def nextP (r : List UInt8) : Option (List UInt8) :=
  if r.length < 2 then none else
  let n := (getOf (r.take 2)).toNat
  if r.length < n + 6 then none else
  let b := (r.drop 2).take n
  if pieceOf b = r.take (n + 6) then some b else none

/-- All pieces with which bytes begin. -/
def reads : Nat → List UInt8 → List (List UInt8)
  | 0, _ => []
  | f + 1, r => match nextP r with
    | some b => b :: reads f (r.drop (b.length + 6))
    | none => []
def readOf (t : List UInt8) : List (List UInt8) := reads t.length t
def endOf (l : List (List UInt8)) : Nat := (l.map fun b => b.length + 6).sum

end Go.Proofs
