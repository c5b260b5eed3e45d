/- Keys and records: keys.Split, recs. -/
import Derived.Test.YthfbpdipilajoaaGreatDoorL7
set_option linter.unusedSimpArgs false
set_option linter.unusedVariables false
namespace Go.Proofs.Lx
open Go.Vm
attribute [local irreducible] awpArr awpBin awpMake awpAppend awpCvX awpStrOf awpBinX awpSlice awpBS awpStore awpAlloc awpCopy awpIndex awpDraw awpIdxX awpFa awpField awpLookup awpUpdate awpDelete awpClear awpRange awpNext awpEntry awpBuild

/-! A key's numbers. -/
def num4 (b : List UInt8) (i : Nat) : Int := (getOf ((b.drop (4 * i)).take 4)).toInt
def numsK (b : List UInt8) (n : Nat) : List Int := (List.range n).map (num4 b)
theorem getRes4 (b : List UInt8) (i : Nat) (h : 4 * i + 4 ≤ b.length) : getRes b ((4 * i : Nat) : Int) 4 = [.v (.int .i64 (num4 b i)), .v (.int .i64 0)] := by
  unfold getRes num4
  rw [if_neg (by simp [sized]; omega), if_neg (by omega), Int.toNat_natCast]
  rfl
theorem num4_range (b : List UInt8) (i : Nat) : I64 (num4 b i) := by
  have h1 := BitVec.toInt_lt (x := getOf ((b.drop (4 * i)).take 4))
  have h2 := BitVec.le_toInt (x := getOf ((b.drop (4 * i)).take 4))
  unfold I64 num4
  omega

/-- What a key is made of: its tag, its numbers. -/
def splitOf (b : List UInt8) : Option (UInt8 × List Int) :=
  match b with
  | [] => none
  | t :: r => if r.length % 4 = 0 ∧ r.length ≤ 28 then some (t, numsK r (r.length / 4)) else none
def noKey : AV := .tup [.v (.int .u8 0), .v (.slice none 0 0), .v (.bool false)]
def splitSpec : Vm.Spec := fun args h Q => ∃ b : List UInt8, b.length ≤ 4611686018427387904 ∧ args = [.sl 1 (b.map encB)] ∧
  (splitOf b = none → Q noKey h) ∧ (∀ t l, splitOf b = some (t, l) → Q (.otup 1 true 3 1 (l.map encI) [.v (.int .u8 t.toNat), .any, .v (.bool true)]) h)

theorem does_split : Does Tryz.prog 103 splitSpec := by
  refine does_of_awpO 1 (good_cons does_get good_nil) Tryz.func103 rfl (by decide +kernel) (by decide +kernel) ?_
  rintro args h Q ⟨b, hl, rfl, hq0, hq⟩
  refine ⟨by simp [Tryz.f103], ?_⟩
  rw [awpFuncO_some (by rfl)]
  simp -dsimp only [Vm.E, List.lookup, Nat.reduceAdd, Nat.reduceBEq, Int.reduceBNe, Int.reduceBEq, Bool.true_beq, Bool.false_beq, Tryz.underlying45]
  cases b with
  | nil =>
    simp -dsimp only [Vm.E, List.lookup, Nat.reduceAdd, Nat.reduceBEq, Int.reduceBNe, Int.reduceBEq, Bool.true_beq, Bool.false_beq, List.length_nil, Int.natCast_zero, beq_self_eq_true, Tryz.results103]
    exact hq0 rfl
  | cons t r =>
    have e0 : (((t :: r).length : Int) == 0) = false := by simp only [List.length_cons, beq_eq_false_iff_ne]; omega
    simp -dsimp only [Vm.E, List.lookup, Nat.reduceAdd, Nat.reduceBEq, Int.reduceBNe, Int.reduceBEq, Bool.true_beq, Bool.false_beq, e0]
    refine slice_l es45 (by omega) (by simp; omega) ?_
    have e1 : (encB t :: r.map encB).drop (1 : Int).toNat = r.map encB := rfl
    simp -dsimp only [Vm.E, List.lookup, Nat.reduceAdd, Nat.reduceBEq, Int.reduceBNe, Int.reduceBEq, Bool.true_beq, Bool.false_beq, e1, Tryz.underlying45]
    refine rem_intro (by decide) ?_
    have e2 : (r.length : Int).tmod 4 = ((r.length % 4 : Nat) : Int) := by rw [Int.tmod_eq_emod_of_nonneg (by omega)]; omega
    simp only [e2]
    simp -dsimp only [Vm.E, List.lookup, Nat.reduceAdd, Nat.reduceBEq, Int.reduceBNe, Int.reduceBEq, Bool.true_beq, Bool.false_beq]
    unfold splitOf at hq0 hq
    cases c1 : (((r.length % 4 : Nat) : Int) != 0)
    · have d1 : r.length % 4 = 0 := by simp at c1; omega
      simp -dsimp only [Vm.E, List.lookup, Nat.reduceAdd, Nat.reduceBEq, Int.reduceBNe, Int.reduceBEq, Bool.true_beq, Bool.false_beq, Tryz.underlying45]
      cases c2 : decide ((r.length : Int) > 28)
      · have d2 : r.length ≤ 28 := by have := of_decide_eq_false c2; omega
        have hq' := hq t (numsK r (r.length / 4)) (if_pos ⟨d1, d2⟩)
        clear hq hq0
        obtain ⟨k, hk⟩ : ∃ k, r.length = 4 * k := ⟨r.length / 4, by omega⟩
        rw [show r.length / 4 = k by omega] at hq'
        simp -dsimp only [Vm.E, List.lookup, Nat.reduceAdd, Nat.reduceBEq, Int.reduceBNe, Int.reduceBEq, Bool.true_beq, Bool.false_beq]
        refine awp_loop (fun m s h' => ∃ i : Nat, i + m = k ∧ h' = h ∧ s = mk [(0, .sl 1 ((t :: r).map encB)), (5, .sl 1 (r.map encB)), (6, .own true 3 1 ((numsK r i).map encI)), (7, .v (.int .i64 (4 * i : Nat)))])
          k _ (le_mk _ ?_) ⟨0, by omega, rfl, rfl⟩ ?_
        · simp only [List.forall_mem_cons, List.not_mem_nil, false_imp_iff, implies_true, and_true]
          simp -dsimp only [Vm.E, List.lookup, Nat.reduceAdd, Nat.reduceBEq, Int.reduceBNe, Int.reduceBEq, Bool.true_beq, Bool.false_beq]
          exact ⟨.refl _, .refl _, .nil _ _ _ (by decide), .refl _⟩
        · rintro m s h' ⟨i, hi, rfl, rfl⟩
          simp -dsimp only [Vm.E, List.lookup, Nat.reduceAdd, Nat.reduceBEq, Int.reduceBNe, Int.reduceBEq, Bool.true_beq, Bool.false_beq, Tryz.underlying45]
          refine cond_intro (fun hc => ?_) (fun hc => ?_)
          · have hlt : i < k := by have := of_decide_eq_true hc; omega
            simp -dsimp only [Vm.E, List.lookup, Nat.reduceAdd, Nat.reduceBEq, Int.reduceBNe, Int.reduceBEq, Bool.true_beq, Bool.false_beq]
            refine call_one (S := getSpec) rfl _ GaL.rfl ⟨r, ((4 * i : Nat) : Int), 4, by simp only [List.length_cons] at hl; omega, by omega, rfl, ?_⟩
            simp only [getRes4 r i (by omega)]
            simp -dsimp only [Vm.E, List.lookup, Nat.reduceAdd, Nat.reduceBEq, Int.reduceBNe, Int.reduceBEq, Bool.true_beq, Bool.false_beq, es41]
            refine bs_intro zr3 (by decide) (by decide) rfl rfl (by simp [solid, AV.cells]) ?_
            simp -dsimp only [Vm.E, List.lookup, Nat.reduceAdd, Nat.reduceBEq, Int.reduceBNe, Int.reduceBEq, Bool.true_beq, Bool.false_beq, append_own ei41]
            refine app_sl Tryz.underlying41 (by simp [AV.cells]) (by simp [numsK]; omega) ?_
            simp -dsimp only [Vm.E, List.lookup, Nat.reduceAdd, Nat.reduceBEq, Int.reduceBNe, Int.reduceBEq, Bool.true_beq, Bool.false_beq]
            refine kept_intro ⟨k - (i + 1), by omega, _, le_mk [(0, .sl 1 ((t :: r).map encB)), (5, .sl 1 (r.map encB)), (6, .own true 3 1 ((numsK r (i + 1)).map encI)), (7, .v (.int .i64 (4 * (i + 1) : Nat)))] ?_, i + 1, by omega, rfl, rfl⟩
            have ew : IntKind.i64.wrap (((4 * i : Nat) : Int) + 4) = ((4 * (i + 1) : Nat) : Int) := by rw [wrap_i64 (by omega) (by omega)]; omega
            have en : (numsK r i).map encI ++ [AV.v (.int .i64 (num4 r i))] = (numsK r (i + 1)).map encI := by simp [numsK, List.range_succ, encI]
            simp only [List.forall_mem_cons, List.not_mem_nil, false_imp_iff, implies_true, and_true]
            simp -dsimp only [Vm.E, List.lookup, Nat.reduceAdd, Nat.reduceBEq, Int.reduceBNe, Int.reduceBEq, Bool.true_beq, Bool.false_beq, ew, en]
            exact ⟨.refl _, .refl _, .refl _, .refl _⟩
          · have hge : ¬ i < k := by have := of_decide_eq_false hc; omega
            have : i = k := by omega
            subst this
            simp -dsimp only [Vm.E, List.lookup, Nat.reduceAdd, Nat.reduceBEq, Int.reduceBNe, Int.reduceBEq, Bool.true_beq, Bool.false_beq, es45, as45]
            refine idx_bytes (t :: r) 0 (by simp) ?_
            simp -dsimp only [Vm.E, List.lookup, Nat.reduceAdd, Nat.reduceBEq, Int.reduceBNe, Int.reduceBEq, Bool.true_beq, Bool.false_beq, of5, Tryz.results103]
            exact hq'
      · have d2 : ¬ r.length ≤ 28 := by have := of_decide_eq_true c2; omega
        simp -dsimp only [Vm.E, List.lookup, Nat.reduceAdd, Nat.reduceBEq, Int.reduceBNe, Int.reduceBEq, Bool.true_beq, Bool.false_beq, Tryz.results103]
        exact hq0 (if_neg (by omega))
    · have d1 : ¬ r.length % 4 = 0 := by simp at c1; omega
      simp -dsimp only [Vm.E, List.lookup, Nat.reduceAdd, Nat.reduceBEq, Int.reduceBNe, Int.reduceBEq, Bool.true_beq, Bool.false_beq, Tryz.results103]
      exact hq0 (if_neg (by omega))

/-! A table's pairs. -/
def pairSpec : Vm.Spec := fun args h Q => ∃ (tag : UInt8) (k v : Nat) (l : List Int), k ≤ l.length ∧ l.length ≤ 4611686018427387904 ∧ (∀ n ∈ l, I64 n) ∧ args = [.agg [.v (.int .u8 tag.toNat), .v (.int .i64 k), .v (.int .i64 v)], .sl 1 (l.map encI)] ∧
  Q (.agg [.sl 1 ((keyOf tag (l.take k)).map encB), .sl 1 ((packOf (l.drop k)).map encB)]) h

theorem does_pair : Does Tryz.prog 187 pairSpec := by
  refine does_of_awp (good_cons does_key (good_cons does_pack good_nil)) Tryz.func187 rfl (by decide +kernel) (by decide +kernel) ?_
  rintro args h Q ⟨tag, k, v, l, hk, hl, hn, rfl, hq⟩
  refine ⟨by simp [Tryz.f187], ?_⟩
  rw [awpFunc_some (by rfl)]
  simp -dsimp only [Vm.E, List.lookup, Nat.reduceAdd, Nat.reduceBEq, Int.reduceBNe, Int.reduceBEq, Bool.true_beq, Bool.false_beq, al47]
  refine draw_pub [2] (.take 0 (.take 1 (.take 2 (.take 3 (.take 4 (.take 5 (.take 7 (.take 8 (.take 9 (.take 10 (.alt 6 (.alt 11 (.alt 12 (.alt 13 (.done) .stop) .stop) .stop) .stop))))))))))) (by kernel_rfl) (by kernel_rfl) (by kernel_rfl) (by decide) ?_
  simp -dsimp only [Vm.E, List.lookup, Nat.reduceAdd, Nat.reduceBEq, Int.reduceBNe, Int.reduceBEq, Bool.true_beq, Bool.false_beq, fo217_0, fo217_1, of5, of3]
  refine slice_h es41 (by omega) (by simp; omega) ?_
  simp -dsimp only [Vm.E, List.lookup, Nat.reduceAdd, Nat.reduceBEq, Int.reduceBNe, Int.reduceBEq, Bool.true_beq, Bool.false_beq, fo217_0, fo217_1, of5, of3]
  refine slice_l es41 (by omega) (by simp; omega) ?_
  have e1 : (l.map encI).take (k : Int).toNat = (l.take k).map encI := by rw [Int.toNat_natCast, List.map_take]
  have e2 : (l.map encI).drop (k : Int).toNat = (l.drop k).map encI := by rw [Int.toNat_natCast, List.map_drop]
  simp -dsimp only [Vm.E, List.lookup, Nat.reduceAdd, Nat.reduceBEq, Int.reduceBNe, Int.reduceBEq, Bool.true_beq, Bool.false_beq, e1, e2]
  refine call_one (S := keySpec) rfl _ GaL.rfl ⟨tag, l.take k, by rw [List.length_take]; omega, rfl, ?_⟩
  simp -dsimp only [Vm.E, List.lookup, Nat.reduceAdd, Nat.reduceBEq, Int.reduceBNe, Int.reduceBEq, Bool.true_beq, Bool.false_beq]
  refine call_one (S := packSpec) rfl _ GaL.rfl ⟨l.drop k, by rw [List.length_drop]; omega, fun n h => hn n (List.mem_of_mem_drop h), rfl, ?_⟩
  simp -dsimp only [Vm.E, List.lookup, Nat.reduceAdd, Nat.reduceBEq, Int.reduceBNe, Int.reduceBEq, Bool.true_beq, Bool.false_beq, sto_place, sto_box, sto_pp, sto_pc, sto_ptr, sto_cells, stoOk_eq, solid_v, solid_sl, solid_agg, solid_eptr, solid_ptr, solid_mp, solid_clo, cells_eptr, put_nil, put_zero, put_succ, bld_nil, bld_cons, bld_some, bsIx_nil, bsIx_cons, bsAll_nil, bsAll_cons, List.length_cons, List.length_nil, Nat.reduceLeDiff, decide_true, Bool.and_self, Bool.and_true, Bool.true_and, take_sc, take_z, eq_self, bd47, sz47, of47, Tryz.results187]
  exact hq

def tabSpec (tag : UInt8) (k v : Int) : Vm.Spec := fun args h Q => args = [] ∧ Q (.agg [.v (.int .u8 tag.toNat), .v (.int .i64 k), .v (.int .i64 v)]) h
theorem does_nodes : Does Tryz.prog 186 (tabSpec 78 2 10) := by
  refine does_of_awp good_nil Tryz.func186 rfl (by decide +kernel) (by decide +kernel) ?_
  rintro args h Q ⟨rfl, hq⟩
  refine ⟨by simp [Tryz.f186], ?_⟩
  rw [awpFunc_some (by rfl)]
  simp -dsimp only [Vm.E, List.lookup, Nat.reduceAdd, Nat.reduceBEq, Int.reduceBNe, Int.reduceBEq, Bool.true_beq, Bool.false_beq, sto_place, sto_box, sto_pp, sto_pc, sto_ptr, sto_cells, stoOk_eq, solid_v, solid_sl, solid_agg, solid_eptr, solid_ptr, solid_mp, solid_clo, cells_eptr, put_nil, put_zero, put_succ, bld_nil, bld_cons, bld_some, bsIx_nil, bsIx_cons, bsAll_nil, bsAll_cons, List.length_cons, List.length_nil, Nat.reduceLeDiff, decide_true, Bool.and_self, Bool.and_true, Bool.true_and, take_sc, take_z, eq_self, al217, bd217, sz217, of217, Tryz.results186]
  exact hq

def bitOf (b : Bool) : Int := if b then 1 else 0
def bitSpec : Vm.Spec := fun args h Q => ∃ b : Bool, args = [.v (.bool b)] ∧ Q (.v (.int .i64 (bitOf b))) h
theorem does_bit : Does Tryz.prog 188 bitSpec := by
  refine does_of_awp good_nil Tryz.func188 rfl (by decide +kernel) (by decide +kernel) ?_
  rintro args h Q ⟨b, rfl, hq⟩
  refine ⟨by simp [Tryz.f188], ?_⟩
  rw [awpFunc_some (by rfl)]
  simp -dsimp only [Vm.E, List.lookup, Nat.reduceAdd, Nat.reduceBEq, Int.reduceBNe, Int.reduceBEq, Bool.true_beq, Bool.false_beq]
  cases b
  · simp -dsimp only [Vm.E, List.lookup, Nat.reduceAdd, Nat.reduceBEq, Int.reduceBNe, Int.reduceBEq, Bool.true_beq, Bool.false_beq, Tryz.results188]
    exact hq
  · simp -dsimp only [Vm.E, List.lookup, Nat.reduceAdd, Nat.reduceBEq, Int.reduceBNe, Int.reduceBEq, Bool.true_beq, Bool.false_beq, Tryz.results188]
    exact hq

/-- A record's numbers, those of its key ahead. -/
def numsPair (tag : UInt8) (k v : Nat) (key val : List UInt8) : Option (List Int) :=
  match splitOf key with
  | some (t, l) => if t = tag ∧ l.length = k ∧ val.length = 8 * v then some (l ++ numsOf val v) else none
  | none => none
def numsSpec : Vm.Spec := fun args h Q => ∃ (tag : UInt8) (k v : Nat) (key val : List UInt8), v ≤ 15 ∧ key.length ≤ 4611686018427387904 ∧ val.length ≤ 4611686018427387904 ∧
  args = [.agg [.v (.int .u8 tag.toNat), .v (.int .i64 k), .v (.int .i64 v)], .agg [.sl 1 (key.map encB), .sl 1 (val.map encB)]] ∧
  (∀ l, numsPair tag k v key val = some l → Q (.otup 0 true 3 1 (l.map encI) [.any, .v (.bool true)]) h) ∧ (numsPair tag k v key val = none → Q (.tup [.v (.slice none 0 0), .v (.bool false)]) h)
    ∧ (numsPair tag k v key val = none → ∀ l, Q (.otup 0 true 3 1 l [.any, .v (.bool false)]) h)

theorem numsK_length (b : List UInt8) (n : Nat) : (numsK b n).length = n := by simp [numsK]

theorem does_nums : Does Tryz.prog 202 numsSpec := by
  refine does_of_awpO 0 (good_cons does_split (good_cons does_unpack good_nil)) Tryz.func202 rfl (by decide +kernel) (by decide +kernel) ?_
  rintro args h Q ⟨tag, k, v, key, val, hv, hkl, hvl, rfl, hq1, hq2, hq3⟩
  refine ⟨by simp [Tryz.f202], ?_⟩
  rw [awpFuncO_some (by rfl)]
  unfold numsPair at hq1 hq2 hq3
  simp -dsimp only [Vm.E, List.lookup, Nat.reduceAdd, Nat.reduceBEq, Int.reduceBNe, Int.reduceBEq, Bool.true_beq, Bool.false_beq, fo47_0, of45]
  refine call_one (S := splitSpec) rfl _ GaL.rfl ⟨key, hkl, rfl, fun hs => ?_, fun t l hs => ?_⟩
  · rw [hs] at hq2
    unfold noKey
    simp -dsimp only [Vm.E, List.lookup, Nat.reduceAdd, Nat.reduceBEq, Int.reduceBNe, Int.reduceBEq, Bool.true_beq, Bool.false_beq, Tryz.results202]
    exact hq2 rfl
  · rw [hs] at hq1 hq2 hq3
    simp -dsimp only [Vm.E, List.lookup, Nat.reduceAdd, Nat.reduceBEq, Int.reduceBNe, Int.reduceBEq, Bool.true_beq, Bool.false_beq, fo217_0, of5]
    cases c1 : ((t.toNat : Int) != tag.toNat)
    · have d1 : t = tag := by
        have : (t.toNat : Int) = tag.toNat := by simpa using c1
        exact UInt8.toNat_inj.1 (by omega)
      simp -dsimp only [Vm.E, List.lookup, Nat.reduceAdd, Nat.reduceBEq, Int.reduceBNe, Int.reduceBEq, Bool.true_beq, Bool.false_beq, fo217_1, of3, Tryz.underlying41]
      cases c2 : ((l.length : Int) != k)
      · have d2 : l.length = k := by simp at c2; omega
        simp -dsimp only [Vm.E, List.lookup, Nat.reduceAdd, Nat.reduceBEq, Int.reduceBNe, Int.reduceBEq, Bool.true_beq, Bool.false_beq, fo47_1, of45, fo217_2, of3]
        refine call_one (S := unpackSpec) rfl _ GaL.rfl ⟨val, v, hvl, by unfold I64; omega, rfl, ?_⟩
        unfold unpackRes
        rw [if_neg (by omega)]
        by_cases d3 : val.length = 8 * v
        · rw [if_neg (by omega), Int.toNat_natCast]
          simp -dsimp only [Vm.E, List.lookup, Nat.reduceAdd, Nat.reduceBEq, Int.reduceBNe, Int.reduceBEq, Bool.true_beq, Bool.false_beq, append_own ei41]
          have hl7 : l.length ≤ 7 := by
            unfold splitOf at hs
            split at hs
            · cases hs
            · split at hs
              · rename_i hc; cases hs; rw [numsK_length]; omega
              · cases hs
          refine app_sl Tryz.underlying41 (by simp [AV.cells, encI]) (by simp [numsOf]; omega) ?_
          simp -dsimp only [Vm.E, List.lookup, Nat.reduceAdd, Nat.reduceBEq, Int.reduceBNe, Int.reduceBEq, Bool.true_beq, Bool.false_beq, beq_self_eq_true, Tryz.results202]
          have := hq1 (l ++ numsOf val v) (if_pos ⟨d1, d2, d3⟩)
          simpa using this
        · rw [if_pos (by omega)]
          simp -dsimp only [Vm.E, List.lookup, Nat.reduceAdd, Nat.reduceBEq, Int.reduceBNe, Int.reduceBEq, Bool.true_beq, Bool.false_beq, append_own ei41]
          refine app_nil (e' := 3) Tryz.underlying41 ?_ ?_
          · unfold splitOf at hs
            split at hs
            · cases hs
            · split at hs
              · rename_i hc; cases hs; simp [numsK]; omega
              · cases hs
          · simp -dsimp only [Vm.E, List.lookup, Nat.reduceAdd, Nat.reduceBEq, Int.reduceBNe, Int.reduceBEq, Bool.true_beq, Bool.false_beq, Tryz.results202]
            exact hq3 (if_neg fun hc => d3 hc.2.2) _
      · have d2 : ¬ l.length = k := by simp at c2; omega
        simp -dsimp only [Vm.E, List.lookup, Nat.reduceAdd, Nat.reduceBEq, Int.reduceBNe, Int.reduceBEq, Bool.true_beq, Bool.false_beq, Tryz.results202]
        exact hq2 (if_neg fun hc => d2 hc.2.1)
    · have d1 : ¬ t = tag := fun e => by subst e; simp at c1
      simp -dsimp only [Vm.E, List.lookup, Nat.reduceAdd, Nat.reduceBEq, Int.reduceBNe, Int.reduceBEq, Bool.true_beq, Bool.false_beq, fo217_1, of3, Tryz.underlying41, Tryz.results202]
      exact hq2 (if_neg fun hc => d1 hc.1)

end Go.Proofs.Lx
