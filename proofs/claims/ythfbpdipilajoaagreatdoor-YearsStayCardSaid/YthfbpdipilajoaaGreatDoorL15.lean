/- Slices that are turned in place: IndexFunc and DeleteFunc, at pairs. -/
import Derived.Test.YthfbpdipilajoaaGreatDoorL13
set_option linter.unusedSimpArgs false
set_option linter.unusedVariables false
namespace Go.Proofs.Lx
open Go.Vm
attribute [local irreducible] awpArr awpBin awpMake awpAppend awpCvX awpStrOf awpBinX awpSlice awpBS awpStore awpAlloc awpCopy awpIndex awpDraw awpIdxX awpFa awpField awpLookup awpUpdate awpDelete awpClear awpRange awpNext awpEntry awpBuild awpClearS awpIdxL

/-! Rows of cells. -/
theorem row_elem {sz : Nat} {xs cs : List AV} (hu : ∀ x ∈ xs, x.cells.length = sz) (hc : cs.take (xs.length * sz) = flat xs) (i : Nat) (hi : i < xs.length) :
    (cs.drop (i * sz)).take sz = xs[i].cells ∧ sz ≤ (cs.drop (i * sz)).length := by
  have hfl := flat_length hu
  have hlen : xs.length * sz ≤ cs.length := by
    have : (cs.take (xs.length * sz)).length = xs.length * sz := by rw [hc, hfl]
    rw [List.length_take] at this; omega
  have hb : i * sz + sz ≤ xs.length * sz := by
    have : (i + 1) * sz ≤ xs.length * sz := Nat.mul_le_mul_right _ (by omega)
    rw [Nat.add_mul] at this; omega
  have h2 : sz ≤ (cs.drop (i * sz)).length := by rw [List.length_drop]; omega
  refine ⟨?_, h2⟩
  apply List.ext_getElem?
  intro j
  rw [List.getElem?_take]
  split
  · rename_i hj
    rw [List.getElem?_drop]
    have e1 : cs[i * sz + j]? = (flat xs)[i * sz + j]? := by rw [← hc, List.getElem?_take, if_pos (by omega)]
    rw [e1, flat_get hu (List.getElem?_eq_getElem hi) j hj]
  · rw [List.getElem?_eq_none]
    have := hu xs[i] (List.getElem_mem hi)
    omega

theorem heap_last (h : Heap) (r : AObj) : (h ++ [r])[h.length]? = some r := by rw [List.getElem?_append_right (Nat.le_refl _)]; simp
theorem heap_setLast (h : Heap) (r r' : AObj) : (h ++ [r]).set h.length r' = h ++ [r'] := by rw [List.set_append_right _ _ (Nat.le_refl _)]; simp

def isPr (x : AV) : Prop := ∃ a b, x = .agg [a, b] ∧ solid a = true ∧ solid b = true
theorem isPr.cells {x : AV} (h : isPr x) : x.cells.length = 2 := by obtain ⟨a, b, rfl, -⟩ := h; rfl
def ixOf (p : AV → Bool) (xs : List AV) : Int := match xs.findIdx? p with | some i => i | none => -1

def ixPSpec (T : Tab) : Vm.Spec := fun args h Q => ∃ (g : FuncId) (caps : List AV) (S : Vm.Spec) (p : AV → Bool) (xs : List AV) (id c e m : Nat) (cs : List AV), T g = some S ∧ args = [.osl id 0 xs.length c, .clo g caps] ∧ h[id]? = some (.row e m cs) ∧
  cs.take (xs.length * 2) = flat xs ∧ (∀ x ∈ xs, isPr x) ∧ xs.length ≤ 4611686018427387904 ∧ (∀ x ∈ xs, ∀ Q' : AV → Heap → Prop, Q' (.v (.bool (p x))) h → S (x :: caps) h Q') ∧ Q (.v (.int .i64 (ixOf p xs))) h

theorem ixOf_none {p : AV → Bool} {xs : List AV} (h : ∀ x ∈ xs, p x = false) : ixOf p xs = -1 := by
  have : xs.findIdx? p = none := List.findIdx?_eq_none_iff.2 h
  simp [ixOf, this]
theorem ixOf_some {p : AV → Bool} {xs : List AV} {i : Nat} (hi : i < xs.length) (h1 : p xs[i] = true) (h2 : ∀ j (hj : j < i), p (xs[j]'(by omega)) = false) : ixOf p xs = i := by
  have : xs.findIdx? p = some i := by
    rw [List.findIdx?_eq_some_iff_getElem]
    exact ⟨hi, h1, fun j hj => by simp [h2 j hj]⟩
  simp [ixOf, this]

theorem does_ixP {T : Tab} (hT : Good T) : Does Tryz.prog 155 (ixPSpec T) := by
  refine does_of_awp hT Tryz.func155 rfl (by decide +kernel) (by decide +kernel) ?_
  rintro args h Q ⟨g, caps, S, p, xs, id, c, e, m, cs, hg, rfl, hh, hc, hu, hl, hS, hq⟩
  refine ⟨by simp [Tryz.f155], ?_⟩
  rw [awpFunc_some (by rfl)]
  have hu2 : ∀ x ∈ xs, x.cells.length = 2 := fun x hx => (hu x hx).cells
  simp -dsimp only [Vm.E, List.lookup, Nat.reduceAdd, Nat.reduceBEq, Int.reduceBNe, Int.reduceBEq, Bool.true_beq, Bool.false_beq, Tryz.underlying40]
  refine awp_loop (fun m' s h' => ∃ i : Nat, i + m' = xs.length ∧ h' = h ∧ (∀ j (hj : j < i) (hj2 : j < xs.length), p xs[j] = false) ∧ s = mk [(0, .osl id 0 xs.length c), (1, .clo g caps), (7, .v (.int .i64 xs.length)), (8, .v (.int .i64 i))])
    xs.length _ (le_mk _ ?_) ⟨0, by omega, rfl, fun j hj => by omega, rfl⟩ ?_
  · simp only [List.forall_mem_cons, List.not_mem_nil, false_imp_iff, implies_true, and_true]
    simp -dsimp only [Vm.E, List.lookup, Nat.reduceAdd, Nat.reduceBEq, Int.reduceBNe, Int.reduceBEq, Bool.true_beq, Bool.false_beq]
    exact ⟨.refl _, .refl _, .refl _, .refl _⟩
  · rintro m' s h' ⟨i, hi, rfl, hp, rfl⟩
    simp -dsimp only [Vm.E, List.lookup, Nat.reduceAdd, Nat.reduceBEq, Int.reduceBNe, Int.reduceBEq, Bool.true_beq, Bool.false_beq]
    refine cond_intro (fun hcc => ?_) (fun hcc => ?_)
    · have hlt : i < xs.length := by have := of_decide_eq_true hcc; omega
      obtain ⟨r1, r2⟩ := row_elem hu2 hc i hlt
      obtain ⟨a, b, hx, hsa, hsb⟩ := hu xs[i] (List.getElem_mem hlt)
      have hmem := List.getElem_mem hlt
      have r1' : (cs.drop (i * 2)).take 2 = [a, b] := by rw [r1, hx]; rfl
      simp -dsimp only [Vm.E, List.lookup, Nat.reduceAdd, Nat.reduceBEq, Int.reduceBNe, Int.reduceBEq, Bool.true_beq, Bool.false_beq, es40, as40]
      refine idxL_intro (by omega) (by omega) ?_
      simp -dsimp only [Vm.E, List.lookup, Nat.reduceAdd, Nat.reduceBEq, Int.reduceBNe, Int.reduceBEq, Bool.true_beq, Bool.false_beq, hh, of47, Int.toNat_natCast, r1', r2]
      refine call_one (S := S) hg _ GaL.rfl ?_
      rw [hx] at hmem
      refine hS _ hmem _ ?_
      cases hpi : p (.agg [a, b])
      · simp -dsimp only [Vm.E, List.lookup, Nat.reduceAdd, Nat.reduceBEq, Int.reduceBNe, Int.reduceBEq, Bool.true_beq, Bool.false_beq]
        have hw : IntKind.i64.wrap ((i : Int) + 1) = ((i + 1 : Nat) : Int) := by rw [wrap_i64 (by omega) (by omega)]; simp
        refine kept_intro ⟨xs.length - (i + 1), by omega, _, le_mk [(0, .osl id 0 xs.length c), (1, .clo g caps), (7, .v (.int .i64 xs.length)), (8, .v (.int .i64 (i + 1 : Nat)))] ?_, i + 1, by omega, rfl, fun j hj hj2 => ?_, rfl⟩
        · simp only [List.forall_mem_cons, List.not_mem_nil, false_imp_iff, implies_true, and_true]
          simp -dsimp only [Vm.E, List.lookup, Nat.reduceAdd, Nat.reduceBEq, Int.reduceBNe, Int.reduceBEq, Bool.true_beq, Bool.false_beq, hw]
          exact ⟨.refl _, .refl _, .refl _, .refl _⟩
        · by_cases hji : j = i
          · subst hji; rw [hx]; exact hpi
          · exact hp j (by omega) hj2
      · simp -dsimp only [Vm.E, List.lookup, Nat.reduceAdd, Nat.reduceBEq, Int.reduceBNe, Int.reduceBEq, Bool.true_beq, Bool.false_beq, Tryz.results155]
        rw [ixOf_some hlt (by rw [hx]; exact hpi) fun j hj => hp j hj (by omega)] at hq
        exact hq
    · have hge : ¬ i < xs.length := by have := of_decide_eq_false hcc; omega
      simp -dsimp only [Vm.E, List.lookup, Nat.reduceAdd, Nat.reduceBEq, Int.reduceBNe, Int.reduceBEq, Bool.true_beq, Bool.false_beq, Tryz.results155]
      rw [ixOf_none fun x hx => by
        obtain ⟨j, hj, rfl⟩ := List.getElem_of_mem hx
        exact hp j (by omega) hj] at hq
      exact hq

def ixPNilSpec : Vm.Spec := fun args h Q => ∃ g caps, args = [.v (.slice none 0 0), .clo g caps] ∧ Q (.v (.int .i64 (-1))) h
theorem does_ixPNil : Does Tryz.prog 155 ixPNilSpec := by
  refine does_of_awp good_nil Tryz.func155 rfl (by decide +kernel) (by decide +kernel) ?_
  rintro args h Q ⟨g, caps, rfl, hq⟩
  refine ⟨by simp [Tryz.f155], ?_⟩
  rw [awpFunc_some (by rfl)]
  simp -dsimp only [Vm.E, List.lookup, Nat.reduceAdd, Nat.reduceBEq, Int.reduceBNe, Int.reduceBEq, Bool.true_beq, Bool.false_beq, Tryz.underlying40]
  refine awp_loop (fun m' s h' => h' = h ∧ s = mk [(7, .v (.int .i64 0)), (8, .v (.int .i64 0))]) 0 _ (le_mk _ ?_) ⟨rfl, rfl⟩ ?_
  · simp only [List.forall_mem_cons, List.not_mem_nil, false_imp_iff, implies_true, and_true]
    simp -dsimp only [Vm.E, List.lookup, Nat.reduceAdd, Nat.reduceBEq, Int.reduceBNe, Int.reduceBEq, Bool.true_beq, Bool.false_beq]
    exact ⟨.refl _, .refl _⟩
  · rintro m' s h' ⟨rfl, rfl⟩
    simp -dsimp only [Vm.E, List.lookup, Nat.reduceAdd, Nat.reduceBEq, Int.reduceBNe, Int.reduceBEq, Bool.true_beq, Bool.false_beq]
    refine cond_intro (fun hcc => ?_) (fun hcc => ?_)
    · have := of_decide_eq_true hcc
      omega
    · simp -dsimp only [Vm.E, List.lookup, Nat.reduceAdd, Nat.reduceBEq, Int.reduceBNe, Int.reduceBEq, Bool.true_beq, Bool.false_beq, Tryz.results155]
      exact hq

theorem drop_put {cs xs : List AV} {o k : Nat} (h1 : o + xs.length ≤ k) (h2 : o ≤ cs.length) : (putCells cs o xs).drop k = cs.drop k := by
  apply List.ext_getElem?
  intro j
  rw [List.getElem?_drop, List.getElem?_drop]
  have hl : (cs.take o).length = o := by rw [List.length_take]; omega
  simp only [putCells]
  rw [List.append_assoc, List.getElem?_append_right (by omega), hl, List.getElem?_append_right (by omega), List.getElem?_drop]
  congr 1; omega

/-- What is left of pairs of which some go. -/
abbrev stay (p : AV → Bool) (xs : List AV) : List AV := xs.filter fun x => !p x
def delPSpec (T : Tab) : Vm.Spec := fun args h Q => ∃ (g : FuncId) (caps : List AV) (S : Vm.Spec) (p : AV → Bool) (xs : List AV) (h0 : Heap) (c e : Nat), T g = some S ∧ args = [.osl h0.length 0 xs.length c, .clo g caps] ∧ h = h0 ++ [.row e (c * 2) (flat xs)] ∧
  xs.length ≤ c ∧ (∀ x ∈ xs, isPr x) ∧ xs.length ≤ 4611686018427387904 ∧ (∀ cs, ∀ x ∈ xs, ∀ Q' : AV → Heap → Prop, Q' (.v (.bool (p x))) (h0 ++ [.row e (c * 2) cs]) → S (x :: caps) (h0 ++ [.row e (c * 2) cs]) Q') ∧
  ∀ cs, cs.take ((stay p xs).length * 2) = flat (stay p xs) → Q (.osl h0.length 0 (stay p xs).length c) (h0 ++ [.row e (c * 2) cs])

theorem stay_all {p : AV → Bool} {xs : List AV} (h : ixOf p xs = -1) : stay p xs = xs := by
  have : xs.findIdx? p = none := by
    unfold ixOf at h
    cases hx : xs.findIdx? p with
    | none => rfl
    | some i => rw [hx] at h; simp at h
  rw [List.findIdx?_eq_none_iff] at this
  exact List.filter_eq_self.2 fun x hx => by simp [this x hx]

theorem take_flat {sz : Nat} {xs : List AV} (hu : ∀ x ∈ xs, x.cells.length = sz) (i : Nat) (hi : i ≤ xs.length) : (flat xs).take (i * sz) = flat (xs.take i) := (flat_take hu i hi).1.symm

def orS (A B : Vm.Spec) : Vm.Spec := fun args h Q => A args h Q ∨ B args h Q
theorem does_or {f : FuncId} {A B : Vm.Spec} (ha : Does Tryz.prog f A) (hb : Does Tryz.prog f B) : Does Tryz.prog f (orS A B) :=
  ⟨ha.1, fun args h Q hS => hS.elim (ha.2 args h Q) (hb.2 args h Q)⟩

theorem does_delP {T T2 : Tab} (hT : Good T) (hsub : ∀ g S, T2 g = some S → T g = some S) (hg0 : T 155 = some (orS (ixPSpec T2) ixPNilSpec)) : Does Tryz.prog 119 (delPSpec T2) := by
  refine does_of_awp hT Tryz.func119 rfl (by decide +kernel) (by decide +kernel) ?_
  rintro args h Q ⟨g, caps, S, p, xs, h0, c, e, hg, rfl, rfl, hcl, hu, hl, hS, hq⟩
  refine ⟨by simp [Tryz.f119], ?_⟩
  rw [awpFunc_some (by rfl)]
  have hu2 : ∀ x ∈ xs, x.cells.length = 2 := fun x hx => (hu x hx).cells
  have hfl := flat_length hu2
  simp -dsimp only [Vm.E, List.lookup, Nat.reduceAdd, Nat.reduceBEq, Int.reduceBNe, Int.reduceBEq, Bool.true_beq, Bool.false_beq]
  refine call_one (S := orS (ixPSpec T2) ixPNilSpec) hg0 _ GaL.rfl (.inl ⟨g, caps, S, p, xs, h0.length, c, e, c * 2, flat xs, hg, rfl, heap_last _ _, by rw [List.take_of_length_le (by omega)], hu, hl, hS _, ?_⟩)
  cases c1 : (ixOf p xs == -1)
  · have d1 : ¬ ixOf p xs = -1 := by simpa using c1
    obtain ⟨ix, hix, hil, hpi, hpj⟩ : ∃ ix : Nat, ixOf p xs = ix ∧ ∃ hil : ix < xs.length, p (xs[ix]'hil) = true ∧ ∀ j (hj : j < ix), p (xs[j]'(by omega)) = false := by
      cases hx : xs.findIdx? p with
      | none => rw [ixOf, hx] at d1; exact absurd rfl d1
      | some i =>
        obtain ⟨h1, h2, h3⟩ := List.findIdx?_eq_some_iff_getElem.1 hx
        exact ⟨i, by rw [ixOf, hx], h1, h2, fun j hj => by simpa using h3 j hj⟩
    rw [hix]
    have c1' : (((ix : Nat) : Int) == -1) = false := by simp
    have hw0 : IntKind.i64.wrap ((ix : Int) + 1) = ((ix + 1 : Nat) : Int) := by rw [wrap_i64 (by omega) (by omega)]; simp
    simp -dsimp only [Vm.E, List.lookup, Nat.reduceAdd, Nat.reduceBEq, Int.reduceBNe, Int.reduceBEq, Bool.true_beq, Bool.false_beq, c1', hw0]
    have hfirst : stay p (xs.take (ix + 1)) = xs.take ix := by
      rw [stay, List.take_succ_eq_append_getElem hil, List.filter_append, List.filter_cons, hpi]
      simp only [Bool.not_true, Bool.false_eq_true, if_false, List.filter_nil, List.append_nil]
      exact List.filter_eq_self.2 fun x hx => by
        obtain ⟨j, hj, rfl⟩ := List.getElem_of_mem hx
        rw [List.length_take] at hj
        rw [List.getElem_take, hpj j (by omega)]; rfl
    refine awp_loop (fun m' s h' => ∃ (j i : Nat) (cs : List AV), j + m' = xs.length ∧ i ≤ j ∧ i = (stay p (xs.take j)).length ∧ cs.length = xs.length * 2 ∧ cs.take (i * 2) = flat (stay p (xs.take j)) ∧ cs.drop (j * 2) = (flat xs).drop (j * 2) ∧
        h' = h0 ++ [.row e (c * 2) cs] ∧ s = mk [(0, .osl h0.length 0 xs.length c), (1, .clo g caps), (5, .v (.int .i64 i)), (6, .v (.int .i64 j))])
      (xs.length - (ix + 1)) _ (le_mk _ ?_) ⟨ix + 1, ix, flat xs, by omega, by omega, by rw [hfirst, List.length_take]; omega, hfl, by rw [hfirst]; exact take_flat hu2 ix (by omega), rfl, rfl, rfl⟩ ?_
    · simp only [List.forall_mem_cons, List.not_mem_nil, false_imp_iff, implies_true, and_true]
      simp -dsimp only [Vm.E, List.lookup, Nat.reduceAdd, Nat.reduceBEq, Int.reduceBNe, Int.reduceBEq, Bool.true_beq, Bool.false_beq]
      exact ⟨.refl _, .refl _, .refl _, .refl _⟩
    · rintro m' s h' ⟨j, i, cs, hj, hij, hil2, hcsl, hct, hcd, rfl, rfl⟩
      simp -dsimp only [Vm.E, List.lookup, Nat.reduceAdd, Nat.reduceBEq, Int.reduceBNe, Int.reduceBEq, Bool.true_beq, Bool.false_beq, Tryz.underlying40]
      refine cond_intro (fun hcc => ?_) (fun hcc => ?_)
      · have hlt : j < xs.length := by have := of_decide_eq_true hcc; omega
        obtain ⟨a, b, hx, hsa, hsb⟩ := hu xs[j] (List.getElem_mem hlt)
        have hmem := List.getElem_mem hlt
        rw [hx] at hmem
        have hw : IntKind.i64.wrap ((j : Int) + 1) = ((j + 1 : Nat) : Int) := by rw [wrap_i64 (by omega) (by omega)]; simp
        have hw2 : IntKind.i64.wrap ((i : Int) + 1) = ((i + 1 : Nat) : Int) := by rw [wrap_i64 (by omega) (by omega)]; simp
        have r1 : (cs.drop (j * 2)).take 2 = [a, b] := by
          rw [hcd, (row_elem hu2 (cs := flat xs) (by rw [List.take_of_length_le (by omega)]) j hlt).1, hx]; rfl
        have r2 : 2 ≤ (cs.drop (j * 2)).length := by rw [List.length_drop]; omega
        have hst : stay p (xs.take (j + 1)) = stay p (xs.take j) ++ if p (.agg [a, b]) = true then [] else [.agg [a, b]] := by
          rw [stay, List.take_succ_eq_append_getElem hlt, List.filter_append, List.filter_cons, List.filter_nil, hx]
          cases p (.agg [a, b]) <;> simp
        have hnext : cs.drop ((j + 1) * 2) = (flat xs).drop ((j + 1) * 2) := by
          have := congrArg (List.drop 2) hcd
          rw [List.drop_drop, List.drop_drop] at this
          rw [show (j + 1) * 2 = j * 2 + 2 by omega]; exact this
        simp -dsimp only [Vm.E, List.lookup, Nat.reduceAdd, Nat.reduceBEq, Int.reduceBNe, Int.reduceBEq, Bool.true_beq, Bool.false_beq, es40, as40]
        refine idxL_intro (by omega) (by omega) ?_
        simp -dsimp only [Vm.E, List.lookup, Nat.reduceAdd, Nat.reduceBEq, Int.reduceBNe, Int.reduceBEq, Bool.true_beq, Bool.false_beq, sto_place, sto_box, sto_pp, sto_pc, sto_ptr, sto_cells, stoOk_eq, solid_v, solid_sl, solid_agg, solid_eptr, solid_ptr, solid_mp, solid_clo, cells_eptr, put_nil, put_zero, put_succ, bld_nil, bld_cons, bld_some, bsIx_nil, bsIx_cons, bsAll_nil, bsAll_cons, List.length_cons, List.length_nil, Nat.reduceLeDiff, decide_true, Bool.and_self, Bool.and_true, Bool.true_and, take_sc, take_z, eq_self, heap_last, of47, Int.toNat_natCast, r1, r2, al47, sz47]
        refine call_one (S := S) (hsub _ _ hg) _ GaL.rfl (hS cs _ hmem _ ?_)
        cases hpi2 : p (.agg [a, b])
        · rw [hpi2] at hst
          simp -dsimp only [Vm.E, List.lookup, Nat.reduceAdd, Nat.reduceBEq, Int.reduceBNe, Int.reduceBEq, Bool.true_beq, Bool.false_beq, sto_place, sto_box, sto_pp, sto_pc, sto_ptr, sto_cells, stoOk_eq, solid_v, solid_sl, solid_agg, solid_eptr, solid_ptr, solid_mp, solid_clo, cells_eptr, put_nil, put_zero, put_succ, bld_nil, bld_cons, bld_some, bsIx_nil, bsIx_cons, bsAll_nil, bsAll_cons, List.length_cons, List.length_nil, Nat.reduceLeDiff, decide_true, Bool.and_self, Bool.and_true, Bool.true_and, take_sc, take_z, eq_self, of47, es40, as40]
          refine idxL_intro (by omega) (by omega) ?_
          simp -dsimp only [Vm.E, List.lookup, Nat.reduceAdd, Nat.reduceBEq, Int.reduceBNe, Int.reduceBEq, Bool.true_beq, Bool.false_beq, sz47, Int.toNat_natCast]
          refine store_row cs (heap_last _ _) rfl rfl (by omega) ?_
          simp -dsimp only [Vm.E, List.lookup, Nat.reduceAdd, Nat.reduceBEq, Int.reduceBNe, Int.reduceBEq, Bool.true_beq, Bool.false_beq, heap_setLast, hw, hw2]
          have hst' : stay p (xs.take (j + 1)) = stay p (xs.take j) ++ [.agg [a, b]] := by simpa using hst
          have hpl : (putCells cs (i * 2) [a, b]).length = cs.length := by simp [putCells]; omega
          refine kept_intro ⟨xs.length - (j + 1), by omega, _, le_mk [(0, .osl h0.length 0 xs.length c), (1, .clo g caps), (5, .v (.int .i64 (i + 1 : Nat))), (6, .v (.int .i64 (j + 1 : Nat)))] ?_,
            j + 1, i + 1, putCells cs (i * 2) [a, b], by omega, by omega, by rw [hst', List.length_append]; simp; omega, by rw [hpl]; exact hcsl, ?_, ?_, rfl, rfl⟩
          · simp only [List.forall_mem_cons, List.not_mem_nil, false_imp_iff, implies_true, and_true]
            simp -dsimp only [Vm.E, List.lookup, Nat.reduceAdd, Nat.reduceBEq, Int.reduceBNe, Int.reduceBEq, Bool.true_beq, Bool.false_beq]
            exact ⟨.refl _, .refl _, .refl _, .refl _⟩
          · rw [hst', flat_append, ← hct]
            simp only [putCells]
            rw [show (i + 1) * 2 = (cs.take (i * 2) ++ [a, b]).length by simp [List.length_take]; omega, List.take_left']
            · simp [flat, AV.cells]
            · rfl
          · rw [← hnext]
            exact drop_put (by simp only [List.length_cons, List.length_nil]; omega) (by omega)
        · rw [hpi2] at hst
          have hst' : stay p (xs.take (j + 1)) = stay p (xs.take j) := by simpa using hst
          simp -dsimp only [Vm.E, List.lookup, Nat.reduceAdd, Nat.reduceBEq, Int.reduceBNe, Int.reduceBEq, Bool.true_beq, Bool.false_beq, hw]
          refine kept_intro ⟨xs.length - (j + 1), by omega, _, le_mk [(0, .osl h0.length 0 xs.length c), (1, .clo g caps), (5, .v (.int .i64 i)), (6, .v (.int .i64 (j + 1 : Nat)))] ?_,
            j + 1, i, cs, by omega, by omega, by rw [hst']; exact hil2, hcsl, by rw [hst']; exact hct, hnext, rfl, rfl⟩
          simp only [List.forall_mem_cons, List.not_mem_nil, false_imp_iff, implies_true, and_true]
          simp -dsimp only [Vm.E, List.lookup, Nat.reduceAdd, Nat.reduceBEq, Int.reduceBNe, Int.reduceBEq, Bool.true_beq, Bool.false_beq]
          exact ⟨.refl _, .refl _, .refl _, .refl _⟩
      · have hge : ¬ j < xs.length := by have := of_decide_eq_false hcc; omega
        have hjx : j = xs.length := by omega
        rw [hjx, List.take_length] at hil2 hct
        have hfin : ∀ cs', cs'.take (i * 2) = cs.take (i * 2) → Q (.osl h0.length 0 i c) (h0 ++ [.row e (c * 2) cs']) := fun cs' hcs' => by
          have := hq cs' (by rw [← hil2, hcs', hct])
          rw [← hil2] at this; exact this
        have hzc : plain (.agg #[.slice none 0 0, .slice none 0 0]) = true ∨ ∃ zs, Value.agg #[.slice none 0 0, .slice none 0 0] = .agg zs ∧ zs.all plain = true := .inr ⟨_, rfl, by simp [plain]⟩
        simp -dsimp only [Vm.E, List.lookup, Nat.reduceAdd, Nat.reduceBEq, Int.reduceBNe, Int.reduceBEq, Bool.true_beq, Bool.false_beq]
        refine sliceO_intro es40 (l := i) (m := xs.length) rfl rfl (by omega) (by omega) (by omega) (fun hlc => ?_) (fun hlc => ?_)
        · simp -dsimp only [Vm.E, List.lookup, Nat.reduceAdd, Nat.reduceBEq, Int.reduceBNe, Int.reduceBEq, Bool.true_beq, Bool.false_beq]
          refine clearS_intro cs Tryz.underlying40 z47 hzc (heap_last _ _) (by simp [Value.cells]; omega) ?_
          simp -dsimp only [Vm.E, List.lookup, Nat.reduceAdd, Nat.reduceBEq, Int.reduceBNe, Int.reduceBEq, Bool.true_beq, Bool.false_beq, heap_setLast]
          refine sliceO_intro es40 (l := 0) (m := i) rfl rfl (by omega) (by omega) (by omega) (fun _ => ?_) (fun hlc => absurd (.inl rfl) hlc)
          simp -dsimp only [Vm.E, List.lookup, Nat.reduceAdd, Nat.reduceBEq, Int.reduceBNe, Int.reduceBEq, Bool.true_beq, Bool.false_beq, Tryz.results119]
          have := hfin (putCells cs ((i : Int).toNat * 2) (List.replicate ((((xs.length : Nat) : Int).toNat - (i : Int).toNat) * 2) .any)) (by
            simp only [putCells, Int.toNat_natCast]
            rw [List.append_assoc, List.take_append_of_le_length (by rw [List.length_take]; omega), List.take_take, Nat.min_self])
          simpa [Value.cells] using this
        · simp -dsimp only [Vm.E, List.lookup, Nat.reduceAdd, Nat.reduceBEq, Int.reduceBNe, Int.reduceBEq, Bool.true_beq, Bool.false_beq]
          refine clearX_nil Tryz.underlying40 ?_
          simp -dsimp only [Vm.E, List.lookup, Nat.reduceAdd, Nat.reduceBEq, Int.reduceBNe, Int.reduceBEq, Bool.true_beq, Bool.false_beq]
          refine sliceO_intro es40 (l := 0) (m := i) rfl rfl (by omega) (by omega) (by omega) (fun _ => ?_) (fun hlc => absurd (.inl rfl) hlc)
          simp -dsimp only [Vm.E, List.lookup, Nat.reduceAdd, Nat.reduceBEq, Int.reduceBNe, Int.reduceBEq, Bool.true_beq, Bool.false_beq, Tryz.results119]
          have := hfin cs rfl
          simpa using this
  · have d1 : ixOf p xs = -1 := by simpa using c1
    have hst := stay_all d1
    rw [d1]
    have := hq (flat xs) (by rw [hst, List.take_of_length_le (by omega)])
    rw [hst] at this
    simp -dsimp only [Vm.E, List.lookup, Nat.reduceAdd, Nat.reduceBEq, Int.reduceBNe, Int.reduceBEq, Bool.true_beq, Bool.false_beq, beq_self_eq_true, Tryz.results119]
    exact this

def delPNilSpec : Vm.Spec := fun args h Q => ∃ g caps, args = [.v (.slice none 0 0), .clo g caps] ∧ Q (.v (.slice none 0 0)) h
theorem does_delPNil {T T2 : Tab} (hT : Good T) (hg0 : T 155 = some (orS (ixPSpec T2) ixPNilSpec)) : Does Tryz.prog 119 delPNilSpec := by
  refine does_of_awp hT Tryz.func119 rfl (by decide +kernel) (by decide +kernel) ?_
  rintro args h Q ⟨g, caps, rfl, hq⟩
  refine ⟨by simp [Tryz.f119], ?_⟩
  rw [awpFunc_some (by rfl)]
  simp -dsimp only [Vm.E, List.lookup, Nat.reduceAdd, Nat.reduceBEq, Int.reduceBNe, Int.reduceBEq, Bool.true_beq, Bool.false_beq]
  refine call_one (S := orS (ixPSpec T2) ixPNilSpec) hg0 _ GaL.rfl (.inr ⟨g, caps, rfl, ?_⟩)
  simp -dsimp only [Vm.E, List.lookup, Nat.reduceAdd, Nat.reduceBEq, Int.reduceBNe, Int.reduceBEq, Bool.true_beq, Bool.false_beq, beq_self_eq_true, Tryz.results119]
  exact hq

end Go.Proofs.Lx
