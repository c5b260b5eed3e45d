/- Keys and records are read as they were written: plain laws. -/
import Derived.Test.YthfbpdipilajoaaGreatDoorL22
set_option linter.unusedSimpArgs false
set_option linter.unusedVariables false
namespace Go.Proofs.Lx
open Go.Vm

theorem getOf_be4 (n : Int) (h0 : 0 ≤ n) (h1 : n ≤ 4294967295) : (getOf (be 4 n)).toInt = n := by
  have hb : be 4 n = [byteOf n 3, byteOf n 2, byteOf n 1, byteOf n 0] := rfl
  have b3 := byteOf_nat n 3; have b2 := byteOf_nat n 2; have b1 := byteOf_nat n 1; have b0 := byteOf_nat n 0
  simp only [Nat.reduceMul, Int.reducePow] at b3 b2 b1 b0
  have e : (getOf (be 4 n)).toNat = n.toNat := by
    rw [hb]
    simp only [getOf, List.foldl_cons, List.foldl_nil]
    have z : (0#64).toNat = 0 := rfl
    have s1 := getStep_nat 0#64 (byteOf n 3) (by rw [z]; omega)
    have e1 : (getStep 0#64 (byteOf n 3)).toNat = n.toNat / 16777216 := by rw [s1, z]; omega
    generalize getStep 0#64 (byteOf n 3) = x1 at e1 ⊢
    have e2 : (getStep x1 (byteOf n 2)).toNat = n.toNat / 65536 := by rw [getStep_nat _ _ (by omega), e1]; omega
    generalize getStep x1 (byteOf n 2) = x2 at e2 ⊢
    have e3 : (getStep x2 (byteOf n 1)).toNat = n.toNat / 256 := by rw [getStep_nat _ _ (by omega), e2]; omega
    generalize getStep x2 (byteOf n 1) = x3 at e3 ⊢
    rw [getStep_nat _ _ (by omega), e3]; omega
  rw [BitVec.toInt_eq_toNat_cond, e, if_pos (by omega)]
  omega

theorem num_cons {size : Nat} (g : List UInt8 → Int) (x : Int) (r : List UInt8) (i : Nat) : g (((be size x ++ r).drop (size * (i + 1))).take size) = g ((r.drop (size * i)).take size) := by
  rw [show size * (i + 1) = (be size x).length + size * i by rw [be_length]; rw [Nat.mul_add]; omega, List.drop_append, List.drop_of_length_le (by omega), List.nil_append]
  congr 3
  omega
theorem num_head {size : Nat} (g : List UInt8 → Int) (x : Int) (r : List UInt8) : g (((be size x ++ r).drop (size * 0)).take size) = g (be size x) := by
  rw [Nat.mul_zero, List.drop_zero, List.take_left' (be_length _ _)]
theorem nums_packs {size : Nat} (g : List UInt8 → Int) (l : List Int) (hg : ∀ x ∈ l, g (be size x) = x) : ((List.range l.length).map fun i => g (((packs size l).drop (size * i)).take size)) = l := by
  induction l with
  | nil => rfl
  | cons x l ih =>
    have ih := ih fun y hy => hg y (List.mem_cons_of_mem _ hy)
    rw [List.length_cons, List.range_succ_eq_map, List.map_cons, List.map_map]
    have ep : packs size (x :: l) = be size x ++ packs size l := rfl
    rw [ep]
    congr 1
    · rw [num_head g x]; exact hg x (List.mem_cons_self ..)
    · refine Eq.trans (List.map_congr_left fun i _ => ?_) ih
      exact num_cons g x _ i
theorem numsOf_packs (l : List Int) (hl : ∀ x ∈ l, I64 x) : numsOf (packs 8 l) l.length = l := by
  refine nums_packs (fun b => (getOf b).toInt) l fun x hx => ?_
  have := num8_be x (hl x hx)
  unfold num8 at this
  rw [Nat.mul_zero, List.drop_zero, List.take_of_length_le (by rw [be_length]; exact Nat.le_refl _)] at this
  exact this
theorem numsK_packs (l : List Int) (hl : ∀ x ∈ l, 0 ≤ x ∧ x ≤ 4294967295) : numsK (packs 4 l) l.length = l :=
  nums_packs (fun b => (getOf b).toInt) l fun x hx => getOf_be4 x (hl x hx).1 (hl x hx).2

theorem splitOf_key (t : UInt8) (l : List Int) (hl : l.length ≤ 7) : splitOf (keyOf t l) = some (t, l.map clampK) := by
  have e : keyOf t l = t :: packs 4 (l.map clampK) := by unfold keyOf; rw [List.take_of_length_le hl]
  rw [e]
  have hp : (packs 4 (l.map clampK)).length = l.length * 4 := by rw [packs_length, List.length_map]
  simp only [splitOf]
  rw [if_pos (by omega), hp, show l.length * 4 / 4 = (l.map clampK).length by rw [List.length_map]; omega, numsK_packs]
  intro x hx
  obtain ⟨y, -, rfl⟩ := List.mem_map.1 hx
  exact clampK_range y
theorem key_inj {t t' : UInt8} {l l' : List Int} (hl : l.length ≤ 7) (hl' : l'.length ≤ 7) (h : keyOf t l = keyOf t' l') : t = t' ∧ l.map clampK = l'.map clampK := by
  have := congrArg splitOf h
  rw [splitOf_key t l hl, splitOf_key t' l' hl'] at this
  simpa using this
theorem clampK_id {n : Int} (h0 : 0 ≤ n) (h1 : n ≤ 4294967295) : clampK n = n := by unfold clampK; split <;> split <;> omega
theorem key_clamp (t : UInt8) (l : List Int) : keyOf t (l.map clampK) = keyOf t l := by
  unfold keyOf
  rw [← List.map_take, List.map_map]
  congr 2
  apply List.map_congr_left
  intro x _
  have := clampK_range x
  exact clampK_id this.1 this.2

/-! Years. -/
theorem stateOf_turn (f : Fun) (n st m : Int) (hst : st = 1 ∨ st = 2) : stateOf (yrTurn f n st) m = if yrK m = yrK n then st else stateOf f m := by
  unfold stateOf yrTurn
  rw [readOf_upd _ _ _ _ (by unfold I64; omega)]
  by_cases hk : yrK m = yrK n
  · simp [hk, hst]
  · simp [hk]
theorem stateOf_key {f : Fun} {n m : Int} (h : yrK n = yrK m) : stateOf f n = stateOf f m := by unfold stateOf; rw [h]
theorem open_stays (f : Fun) (n y : Int) (h : stateOf f y = 2) : stateOf (openOf f n).1 y = 2 := by
  unfold openOf
  split
  · split
    · rename_i h0
      rw [stateOf_turn _ _ _ _ (.inl rfl), if_neg, h]
      intro hk
      rw [stateOf_key hk] at h; omega
    · exact h
  · exact h
theorem shut_stays (f : Fun) (n y : Int) (h : stateOf f y = 2) : stateOf (shutOf f n).1 y = 2 := by
  unfold shutOf
  split
  · rw [stateOf_turn _ _ _ _ (.inr rfl)]; split <;> simp [h]
  · exact h
theorem yrTurn_n (f : Fun) (n st : Int) : (yrTurn f n st).n = f.n + 1 := rfl
theorem open_n (f : Fun) (n : Int) : (openOf f n).1.n ≤ f.n + 1 := by 
  unfold openOf
  repeat' split
  all_goals simp [yrTurn_n]
theorem shut_n (f : Fun) (n : Int) : (shutOf f n).1.n ≤ f.n + 1 := by unfold shutOf; split <;> simp [yrTurn_n]
/-- The years that are there. -/
def yearOf (f : Fun) (p : KV) : Option Int := match splitOf p.1 with
  | some (_, [n]) => if stateOf f n = 0 then none else some n
  | _ => none
def allY (f : Fun) (l : List KV) : List Int := l.filterMap (yearOf f)
theorem all_has {f : Fun} {l : List KV} {y : Int} (hl : ScanIs f [89] l) (h0 : 0 ≤ y) (h1 : y ≤ 4294967295) (h : stateOf f y ≠ 0) : y ∈ allY f l := by
  have hv : ∃ v, f (yrK y) = some v := by
    cases hx : f (yrK y) with
    | none =>
      exfalso
      apply h
      unfold stateOf readOf
      rw [hx]; simp
    | some v => exact ⟨v, rfl⟩
  obtain ⟨v, hv⟩ := hv
  refine List.mem_filterMap.2 ⟨(yrK y, v), (hl.2 _ _).2 ⟨hv, by simp [yrK, keyOf]⟩, ?_⟩
  unfold yearOf
  simp only
  rw [yrK, splitOf_key 89 [y] (by simp)]
  simp only [List.map_cons, List.map_nil, clampK_id h0 h1]
  rw [if_neg h]

end Go.Proofs.Lx
