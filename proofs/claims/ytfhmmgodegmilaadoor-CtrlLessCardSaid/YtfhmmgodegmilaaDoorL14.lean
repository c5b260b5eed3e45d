/- The law CtrlLess. -/
import Derived.Test.YtfhmmgodegmilaaDoorL13
import Derived.Test.YtfhmmgodegmilaaDoorVmW
set_option linter.unusedSimpArgs false
set_option linter.unusedVariables false
namespace Go.Proofs
open Go.Vm
attribute [local irreducible] awpArr awpBin awpMake awpAppend awpCvX awpStrOf awpBinX awpSlice awpBS awpStore awpAlloc awpCopy awpIndex awpDraw awpIdxX awpFa awpField awpLookup awpUpdate awpDelete awpClear awpRange awpNext awpEntry awpBuild

def isTrue : Vm.Spec := fun args h Q => args = [] ∧ ∀ h', Q (.v (.bool true)) h'

def nd1 : Nd := { Nd.zero with year := 2020, id := 1, abs := true, limit := 9 }
def nd2 : Nd := { Nd.zero with year := 2020, id := 2, parent := 1, limit := 4 }
def ndF : Fun := upd (upd (fun _ => none) (ndK nd1) (some (ndV nd1))) (ndK nd2) (some (ndV nd2))
theorem charge_first : (chargeOf ndF 2020 2 ⟨5, 0, 0⟩).2 = (true, 0) := by decide +kernel
theorem charge_second : (chargeOf (chargeOf ndF 2020 2 ⟨5, 0, 0⟩).1 2020 2 ⟨5, 0, 0⟩).2.2 = 11 := by decide +kernel
theorem allows_awake : allowsOf { Nd.zero with limit := 5 } 6 = (true, true) := by decide +kernel
theorem nd1_ok : nd1.ok := by simp [Nd.ok, nd1, Nd.zero, I64]
theorem nd2_ok : nd2.ok := by simp [Nd.ok, nd2, Nd.zero, I64]

set_option maxRecDepth 20000 in
theorem does_law29awake : Does Tryd.prog 9 isTrue := by
  refine does_of_awp (good_cons does_vnew (good_cons does_tput (good_cons does_charge (good_cons does_allows good_nil)))) Tryd.func9 rfl (by decide +kernel) (by decide +kernel) ?_
  rintro args h Q ⟨rfl, hq⟩
  refine ⟨by simp [Tryd.f9], ?_⟩
  rw [awpFunc_some (by rfl)]
  simp -dsimp only [Vm.E, List.lookup, Nat.reduceAdd, Nat.reduceBEq, Int.reduceBNe, Int.reduceBEq, Bool.true_beq, Bool.false_beq]
  refine call_one (S := vnewSpec) rfl _ GaL.rfl ⟨rfl, ?_⟩
  have hV := isView_new h
  generalize hh : (h ++ [AObj.map [] 0, AObj.map [] 0, vobj h.length (h.length + 1)]) = h0 at hV ⊢
  simp -dsimp only [Vm.E, List.lookup, Nat.reduceAdd, Nat.reduceBEq, Int.reduceBNe, Int.reduceBEq, Bool.true_beq, Bool.false_beq]
  refine nil_pointer Tryd.underlying24 ?_
  simp -dsimp only [Vm.E, List.lookup, Nat.reduceAdd, Nat.reduceBEq, Int.reduceBNe, Int.reduceBEq, Bool.true_beq, Bool.false_beq, sto_place, sto_box, sto_pp, sto_ptr, sto_cells, stoOk_eq, solid_v, solid_sl, solid_agg, solid_eptr, solid_ptr, solid_mp, solid_clo, cells_eptr, put_nil, put_zero, put_succ, bld_nil, bld_cons, bld_some, bsIx_nil, bsIx_cons, bsAll_nil, bsAll_cons, List.length_cons, List.length_nil, Nat.reduceLeDiff, decide_true, Bool.and_self, Bool.and_true, Bool.true_and, take_sc, take_z, eq_self, bd32]
  refine call_one (S := tputSpec) rfl _ GaL.rfl ⟨⟨h.length + 2, h.length, h.length + 1⟩, _, nd1, rfl, nd1_ok, hV, fun h1 hV1 _ => ?_⟩
  simp -dsimp only [Vm.E, List.lookup, Nat.reduceAdd, Nat.reduceBEq, Int.reduceBNe, Int.reduceBEq, Bool.true_beq, Bool.false_beq, sto_place, sto_box, sto_pp, sto_ptr, sto_cells, stoOk_eq, solid_v, solid_sl, solid_agg, solid_eptr, solid_ptr, solid_mp, solid_clo, cells_eptr, put_nil, put_zero, put_succ, bld_nil, bld_cons, bld_some, bsIx_nil, bsIx_cons, bsAll_nil, bsAll_cons, List.length_cons, List.length_nil, Nat.reduceLeDiff, decide_true, Bool.and_self, Bool.and_true, Bool.true_and, take_sc, take_z, eq_self, bd32, bne_self_eq_false]
  refine call_one (S := tputSpec) rfl _ GaL.rfl ⟨⟨h.length + 2, h.length, h.length + 1⟩, _, nd2, rfl, nd2_ok, hV1, fun h2 hV2 _ => ?_⟩
  simp -dsimp only [Vm.E, List.lookup, Nat.reduceAdd, Nat.reduceBEq, Int.reduceBNe, Int.reduceBEq, Bool.true_beq, Bool.false_beq, sto_place, sto_box, sto_pp, sto_ptr, sto_cells, stoOk_eq, solid_v, solid_sl, solid_agg, solid_eptr, solid_ptr, solid_mp, solid_clo, cells_eptr, put_nil, put_zero, put_succ, bld_nil, bld_cons, bld_some, bsIx_nil, bsIx_cons, bsAll_nil, bsAll_cons, List.length_cons, List.length_nil, Nat.reduceLeDiff, decide_true, Bool.and_self, Bool.and_true, Bool.true_and, take_sc, take_z, eq_self, bne_self_eq_false]
  have hV2 : isView h2 ⟨h.length + 2, h.length, h.length + 1⟩ ndF := hV2
  have k1 := charge_first
  have k2 := charge_second
  generalize ndF = f0 at hV2 k1 k2
  refine call_one (S := chargeSpec) rfl _ GaL.rfl ⟨⟨h.length + 2, h.length, h.length + 1⟩, f0, 2020, 2, ⟨5, 0, 0⟩, rfl, hV2, fun h3 hV3 _ => ?_⟩
  rw [k1]
  generalize (chargeOf f0 2020 2 ⟨5, 0, 0⟩).1 = f1 at hV3 k2
  simp -dsimp only [Vm.E, List.lookup, Nat.reduceAdd, Nat.reduceBEq, Int.reduceBNe, Int.reduceBEq, Bool.true_beq, Bool.false_beq]
  refine call_one (S := chargeSpec) rfl _ GaL.rfl ⟨⟨h.length + 2, h.length, h.length + 1⟩, f1, 2020, 2, ⟨5, 0, 0⟩, rfl, hV3, fun h4 hV4 _ => ?_⟩
  rw [k2]
  simp -dsimp only [Vm.E, List.lookup, Nat.reduceAdd, Nat.reduceBEq, Int.reduceBNe, Int.reduceBEq, Bool.true_beq, Bool.false_beq, sto_place, sto_box, sto_pp, sto_ptr, sto_cells, stoOk_eq, solid_v, solid_sl, solid_agg, solid_eptr, solid_ptr, solid_mp, solid_clo, cells_eptr, put_nil, put_zero, put_succ, bld_nil, bld_cons, bld_some, bsIx_nil, bsIx_cons, bsAll_nil, bsAll_cons, List.length_cons, List.length_nil, Nat.reduceLeDiff, decide_true, Bool.and_self, Bool.and_true, Bool.true_and, take_sc, take_z, eq_self, bd32]
  refine call_one (S := allowsSpec) rfl _ GaL.rfl ⟨{ Nd.zero with limit := 5 }, 6, rfl, ?_⟩
  rw [allows_awake]
  simp -dsimp only [Vm.E, List.lookup, Nat.reduceAdd, Nat.reduceBEq, Int.reduceBNe, Int.reduceBEq, Bool.true_beq, Bool.false_beq, Tryd.results9]
  exact hq _

theorem mask50 (a : Int) : 0 ≤ Go.bits .and .i64 a 1125899906842623 ∧ Go.bits .and .i64 a 1125899906842623 ≤ 1125899906842623 := by
  have h2 : (BitVec.ofInt 64 (1125899906842623 : Int)).toNat = 1125899906842623 := by decide
  have e : Go.bits .and .i64 a 1125899906842623 = IntKind.i64.wrap ((BitVec.ofInt 64 a &&& BitVec.ofInt 64 (1125899906842623 : Int)).toNat : Int) := rfl
  have hle : (BitVec.ofInt 64 a &&& BitVec.ofInt 64 (1125899906842623 : Int)).toNat ≤ 1125899906842623 := by
    rw [BitVec.toNat_and, h2]; exact Nat.and_le_right
  rw [e, wrap_i64 (by omega) (by omega)]
  omega

def lessSpec : Vm.Spec := fun args h Q => ∃ (n : Nd) (less more : Int), 0 ≤ less ∧ less ≤ 4294967295 ∧ 0 ≤ more ∧ more ≤ 4294967295 ∧ args = [.agg (ndCells n), .v (.int .u32 less), .v (.int .u32 more)] ∧ ∀ h', Q (.v (.bool true)) h'

def maskN (n : Nd) : Nd := { n with limit := Go.bits .and .i64 n.limit 1125899906842623, pre := Go.bits .and .i64 n.pre 1125899906842623, enc := Go.bits .and .i64 n.enc 1125899906842623, exp := Go.bits .and .i64 n.exp 1125899906842623 }

set_option maxRecDepth 20000 in
theorem does_less : Does Tryd.prog 4 lessSpec := by
  refine does_of_awp (good_cons does_allows (good_cons does_law29awake good_nil)) Tryd.func4 rfl (by decide +kernel) (by decide +kernel) ?_
  rintro args h Q ⟨n, less, more, hl0, hl1, hm0, hm1, rfl, hq⟩
  refine ⟨by simp [Tryd.f4], ?_⟩
  rw [awpFunc_some (by rfl)]
  have m1 := mask50 n.limit
  have m2 := mask50 n.pre
  have m3 := mask50 n.enc
  have m4 := mask50 n.exp
  simp -dsimp only [Vm.E, List.lookup, Nat.reduceAdd, Nat.reduceBEq, Int.reduceBNe, Int.reduceBEq, Bool.true_beq, Bool.false_beq, sto_place, sto_box, sto_pp, sto_ptr, sto_cells, stoOk_eq, solid_v, solid_sl, solid_agg, solid_eptr, solid_ptr, solid_mp, solid_clo, cells_eptr, put_nil, put_zero, put_succ, bld_nil, bld_cons, bld_some, bsIx_nil, bsIx_cons, bsAll_nil, bsAll_cons, List.length_cons, List.length_nil, Nat.reduceLeDiff, decide_true, Bool.and_self, Bool.and_true, Bool.true_and, take_sc, take_z, eq_self, ndCells, fo32_6, fo32_7, fo32_8, fo32_9, of3, of32, sz3, cv33_3]
  generalize Go.bits .and .i64 n.limit 1125899906842623 = limit at m1 ⊢
  generalize Go.bits .and .i64 n.pre 1125899906842623 = pre at m2 ⊢
  generalize Go.bits .and .i64 n.enc 1125899906842623 = enc at m3 ⊢
  generalize Go.bits .and .i64 n.exp 1125899906842623 = exp at m4 ⊢
  have wl : IntKind.i64.wrap less = less := wrap_i64 (by omega) (by omega)
  have wm : IntKind.i64.wrap more = more := wrap_i64 (by omega) (by omega)
  have w0 : IntKind.i64.wrap (0 - less) = -less := by rw [wrap_i64 (by omega) (by omega)]; omega
  have w1 : IntKind.i64.wrap (1 + more) = 1 + more := wrap_i64 (by omega) (by omega)
  have u1 : IntKind.i64.wrap (pre + enc) = pre + enc := wrap_i64 (by omega) (by omega)
  have u2 : IntKind.i64.wrap (pre + enc + exp) = pre + enc + exp := wrap_i64 (by omega) (by omega)
  have u3 : IntKind.i64.wrap (pre + enc + exp + 1) = pre + enc + exp + 1 := wrap_i64 (by omega) (by omega)
  have u4 : IntKind.i64.wrap (pre + enc + exp + 1 + more) = pre + enc + exp + 1 + more := wrap_i64 (by omega) (by omega)
  have hu : usedOf { n with limit := limit, pre := pre, enc := enc, exp := exp } = pre + enc + exp := by unfold usedOf w64; simp only [u1, u2]
  have s1 : smallP (pre + enc + exp) = true := by simp only [smallP, Bool.and_eq_true, decide_eq_true_eq]; omega
  have s2 : smallP limit = true := by simp only [smallP, Bool.and_eq_true, decide_eq_true_eq]; omega
  have a1 : allowsOf { n with limit := limit, pre := pre, enc := enc, exp := exp } (-less) = (true, false) := by
    unfold allowsOf
    rw [hu, if_neg (fun hc => hc.elim (fun h => by omega) (fun h => h ⟨s1, s2⟩)), if_pos (.inl (by omega))]
  have a2 : allowsOf { n with limit := limit, pre := pre, enc := enc, exp := exp } (1 + more) = if pre + enc + exp + 1 + more > limit then (!n.abs, !n.abs) else (true, false) := by
    unfold allowsOf
    have wd : w64 (limit - (pre + enc + exp)) = limit - (pre + enc + exp) := wrap_i64 (by omega) (by omega)
    rw [hu, if_neg (fun hc => hc.elim (fun h => by omega) (fun h => h ⟨s1, s2⟩))]
    simp only [wd]
    by_cases hc : pre + enc + exp + 1 + more > limit
    · rw [if_pos hc, if_neg (by omega)]
    · rw [if_neg hc, if_pos (.inr (by omega))]
  simp only [wl, w0]
  refine call_one (S := allowsSpec) rfl _ GaL.rfl ⟨{ n with limit := limit, pre := pre, enc := enc, exp := exp }, -less, rfl, ?_⟩
  simp only [a1]
  simp -dsimp only [Vm.E, List.lookup, Nat.reduceAdd, Nat.reduceBEq, Int.reduceBNe, Int.reduceBEq, Bool.true_beq, Bool.false_beq, sto_place, sto_box, sto_pp, sto_ptr, sto_cells, stoOk_eq, solid_v, solid_sl, solid_agg, solid_eptr, solid_ptr, solid_mp, solid_clo, cells_eptr, put_nil, put_zero, put_succ, bld_nil, bld_cons, bld_some, bsIx_nil, bsIx_cons, bsAll_nil, bsAll_cons, List.length_cons, List.length_nil, Nat.reduceLeDiff, decide_true, Bool.and_self, Bool.and_true, Bool.true_and, take_sc, take_z, eq_self, of3, of32, cv33_3, wm, w1]
  refine call_one (S := allowsSpec) rfl _ GaL.rfl ⟨{ n with limit := limit, pre := pre, enc := enc, exp := exp }, 1 + more, rfl, ?_⟩
  simp only [a2]
  cases c1 : decide (pre + enc + exp + 1 + more > limit)
  · have d1 := of_decide_eq_false c1
    simp only [if_neg d1]
    simp -dsimp only [Vm.E, List.lookup, Nat.reduceAdd, Nat.reduceBEq, Int.reduceBNe, Int.reduceBEq, Bool.true_beq, Bool.false_beq, sto_place, sto_box, sto_pp, sto_ptr, sto_cells, stoOk_eq, solid_v, solid_sl, solid_agg, solid_eptr, solid_ptr, solid_mp, solid_clo, cells_eptr, put_nil, put_zero, put_succ, bld_nil, bld_cons, bld_some, bsIx_nil, bsIx_cons, bsAll_nil, bsAll_cons, List.length_cons, List.length_nil, Nat.reduceLeDiff, decide_true, Bool.and_self, Bool.and_true, Bool.true_and, take_sc, take_z, eq_self, fo32_5, fo32_6, fo32_7, fo32_8, fo32_9, of3, of4, cv33_3, wm, u1, u2, u3, u4, c1, bin_eqb Tryd.underlying4]
    refine call_one (S := isTrue) rfl _ GaL.rfl ⟨rfl, fun h2 => ?_⟩
    simp -dsimp only [Vm.E, List.lookup, Nat.reduceAdd, Nat.reduceBEq, Int.reduceBNe, Int.reduceBEq, Bool.true_beq, Bool.false_beq, Tryd.results4]
    exact hq _
  · have d1 := of_decide_eq_true c1
    simp only [if_pos d1]
    cases hab : n.abs
    · simp -dsimp only [Vm.E, List.lookup, Nat.reduceAdd, Nat.reduceBEq, Int.reduceBNe, Int.reduceBEq, Bool.true_beq, Bool.false_beq, sto_place, sto_box, sto_pp, sto_ptr, sto_cells, stoOk_eq, solid_v, solid_sl, solid_agg, solid_eptr, solid_ptr, solid_mp, solid_clo, cells_eptr, put_nil, put_zero, put_succ, bld_nil, bld_cons, bld_some, bsIx_nil, bsIx_cons, bsAll_nil, bsAll_cons, List.length_cons, List.length_nil, Nat.reduceLeDiff, decide_true, Bool.and_self, Bool.and_true, Bool.true_and, take_sc, take_z, eq_self, fo32_5, fo32_6, fo32_7, fo32_8, fo32_9, of3, of4, cv33_3, wm, u1, u2, u3, u4, c1, hab, bin_eqb Tryd.underlying4]
      refine call_one (S := isTrue) rfl _ GaL.rfl ⟨rfl, fun h2 => ?_⟩
      simp -dsimp only [Vm.E, List.lookup, Nat.reduceAdd, Nat.reduceBEq, Int.reduceBNe, Int.reduceBEq, Bool.true_beq, Bool.false_beq, Tryd.results4]
      exact hq _
    · simp -dsimp only [Vm.E, List.lookup, Nat.reduceAdd, Nat.reduceBEq, Int.reduceBNe, Int.reduceBEq, Bool.true_beq, Bool.false_beq, sto_place, sto_box, sto_pp, sto_ptr, sto_cells, stoOk_eq, solid_v, solid_sl, solid_agg, solid_eptr, solid_ptr, solid_mp, solid_clo, cells_eptr, put_nil, put_zero, put_succ, bld_nil, bld_cons, bld_some, bsIx_nil, bsIx_cons, bsAll_nil, bsAll_cons, List.length_cons, List.length_nil, Nat.reduceLeDiff, decide_true, Bool.and_self, Bool.and_true, Bool.true_and, take_sc, take_z, eq_self, fo32_5, fo32_6, fo32_7, fo32_8, fo32_9, of3, of4, cv33_3, wm, u1, u2, u3, u4, c1, hab, bin_eqb Tryd.underlying4]
      refine call_one (S := isTrue) rfl _ GaL.rfl ⟨rfl, fun h2 => ?_⟩
      simp -dsimp only [Vm.E, List.lookup, Nat.reduceAdd, Nat.reduceBEq, Int.reduceBNe, Int.reduceBEq, Bool.true_beq, Bool.false_beq, Tryd.results4]
      exact hq _

theorem less_args {y0 y1 y2 : AV} (i0 : IsA (.agg [.int .i64, .int .i64, .int .i64, .int .i64, .int .i64, .bool, .int .i64, .int .i64, .int .i64, .int .i64, .int .i64, .int .i64]) y0) (i1 : IsA (.int .u32) y1) (i2 : IsA (.int .u32) y2) {Q : AV → Heap → Prop} (hq : ∀ h', Q (.v (.bool true)) h') : lessSpec [y0, y1, y2] [] Q := by
  simp only [IsA, IsAll] at i0 i1 i2
  obtain ⟨ys, hys, rfl⟩ := i0
  obtain ⟨_, _, rfl, ⟨a0, -, rfl⟩, _, _, rfl, ⟨a1, -, rfl⟩, _, _, rfl, ⟨a2, -, rfl⟩, _, _, rfl, ⟨a3, -, rfl⟩, _, _, rfl, ⟨a4, -, rfl⟩, _, _, rfl, ⟨a5, rfl⟩, _, _, rfl, ⟨a6, -, rfl⟩, _, _, rfl, ⟨a7, -, rfl⟩, _, _, rfl, ⟨a8, -, rfl⟩, _, _, rfl, ⟨a9, -, rfl⟩, _, _, rfl, ⟨a10, -, rfl⟩, _, _, rfl, ⟨a11, -, rfl⟩, rfl⟩ := hys
  obtain ⟨l, hl, rfl⟩ := i1
  obtain ⟨m, hm, rfl⟩ := i2
  simp [Lit.wf, IntKind.min, IntKind.max, IntKind.signed, IntKind.bits] at hl hm
  exact ⟨⟨a0, a1, a2, a3, a4, a5, a6, a7, a8, a9, a10, a11⟩, l, m, by omega, by omega, by omega, by omega, rfl, hq⟩

end Go.Proofs
