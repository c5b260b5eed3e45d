/- What the functions of the program do: their contracts. -/
import Derived.Test.YtknjifhhfccfhaaGreatDoorV2
import Derived.Test.YtknjifhhfccfhaaGreatDoorTFs
import Derived.Test.YtknjifhhfccfhaaGreatDoorW1
import Derived.Test.YtknjifhhfccfhaaGreatDoorShelfGr
/- Room for more lines: slices.Grow, by the kit's law. -/
set_option linter.unusedSimpArgs false
set_option linter.unusedVariables false
namespace Go.Proofs.Lx
open Go.Vm Go.RowKit
attribute [local irreducible] awpArr awpBin awpMake awpAppend awpCvX awpStrOf awpBinX awpSlice awpBS awpStore awpAlloc awpCopy awpIndex awpDraw awpIdxX awpFa awpField awpLookup awpUpdate awpDelete awpClear awpRange awpNext awpEntry awpBuild awpClearS awpIdxL awpTree appB awpIdxO eltA treeA
def growSpec : Vm.Spec := fun args h Q => ∃ n : Nat, args = [.v (.slice none 0 0), .v (.int .i64 n)] ∧ 1 ≤ n ∧ n ≤ 1048576 ∧ Q (.own true 53 4 []) h
theorem elemIn_inv {P : Program} {t e e' : TypeId} {sz bs : Nat} (hu : P.underlying t = some (.slice e)) (he : elemIn P t = some (e', sz, bs)) : ∃ i0 z, P.info? e = some i0 ∧ i0.zero = some z ∧ i0.size = sz ∧ i0.bytes = bs ∧ z.cells.size = sz := by
  unfold elemIn at he
  rw [hu] at he
  simp only at he
  cases hi : P.info? e with
  | none => rw [hi] at he; cases he
  | some i0 =>
    rw [hi] at he
    simp only at he
    cases hz : i0.zero with
    | none => rw [hz] at he; cases he
    | some z =>
      rw [hz] at he
      simp only at he
      split at he
      · rename_i hc
        injection he with he
        injection he with _ he
        injection he with e1 e2
        exact ⟨i0, z, rfl, hz, e1, e2, hc.1.trans e1⟩
      · cases he
theorem does_growLn : Does Tryz.prog 122 growSpec := by
  refine ⟨⟨Tryz.f122, Tryz.func122, by kernel_rfl, by decide +kernel⟩, ?_⟩
  rintro args h Q ⟨n, rfl, hn1, hn2, hq⟩ w g vs hvs hrep hh hfr hlaid
  have hv0 : vs.getD 0 undef = .slice none 0 0 := (rep_v (hrep 0 _ rfl)).1
  have hv1 : vs.getD 1 undef = .int .i64 n := (rep_v (hrep 1 _ rfl)).1
  have hvs2 : vs = #[.slice none 0 0, .int .i64 n] := by
    have h2 : vs.size = 2 := hvs
    apply Array.ext
    · simpa using h2
    · intro i hi1 hi2
      have : i = 0 ∨ i = 1 := by omega
      rcases this with rfl | rfl
      · simpa [Array.getD, h2] using hv0
      · simpa [Array.getD, h2] using hv1
  subst hvs2
  have hi : ∃ i0 z, Tryz.prog.info? 53 = some i0 ∧ i0.zero = some z ∧ i0.size = 4 ∧ i0.bytes = 32 ∧ z.cells.size = 4 :=
    elemIn_inv Tryz.underlying51 ei51
  obtain ⟨i0, z, hi0, hz0, hs0, hb0, hzs⟩ := hi
  have key : Calls Tryz.prog 122 #[.slice none 0 0, .int .i64 n] w fun e w' => e = .returned (.slice (some ⟨w.heap.size, 0, none⟩) 0 (grownCap w (0 + n) 0 53)) ∧
      w' = w.drew.alloc (.cells (([] : List Value).toArray ++ Builtin.zeroCells z.cells (0 + n - 0) ++ Builtin.zeroCells z.cells (grownCap w (0 + n) 0 53 - (0 + n))) 53) :=
    Any8.slices_Grow_grow Tryz.growLine i0 z hi0 hz0 (by omega) none 0 0 n [] w (Nat.le_refl _) (by omega) (by rw [hb0]; omega) (by omega) (by simp) (fun _ => rfl) (fun a ha => by cases ha)
  have hGn := grownCap_ge w (0 + n) 0 53
  have hGm := grownCap_le_maxLen w (0 + n) 0 53 (by unfold maxLen; omega)
  generalize grownCap w (0 + n) 0 53 = G at key hGn hGm
  have hcz : ∀ m, (Builtin.zeroCells z.cells m).size = m * 4 := fun m => by rw [← hzs]; exact size_zeroCells _ _
  obtain ⟨cur, hcur⟩ : ∃ cur, cur = ([] : List Value).toArray ++ Builtin.zeroCells z.cells (0 + n - 0) ++ Builtin.zeroCells z.cells (G - (0 + n)) := ⟨_, rfl⟩
  have hcs : cur.size = G * 4 := by rw [hcur, Array.size_append, Array.size_append, hcz, hcz]; simp; omega
  rw [← hcur] at key
  refine key.mono ?_
  rintro e w' ⟨rfl, rfl⟩
  have hget : ∀ k, k < w.heap.size → (w.drew.alloc (.cells cur 53)).heap[k]? = w.heap[k]? := fun k hk => by
    show (w.heap.push _)[k]? = _
    rw [Array.getElem?_push, if_neg (by omega)]
  have hlast : (w.drew.alloc (.cells cur 53)).heap[w.heap.size]? = some (.cells cur 53 (0, 0)) := by
    show (w.heap.push _)[w.heap.size]? = _
    rw [Array.getElem?_push, if_pos rfl]
  have hsize : (w.drew.alloc (.cells cur 53)).heap.size = w.heap.size + 1 := by
    show (w.heap.push _).size = _
    rw [Array.size_push]
  have hos : (w.drew.alloc (.cells cur 53)).os = w.os ∧ (w.drew.alloc (.cells cur 53)).tape = w.tape ∧ (w.drew.alloc (.cells cur 53)).output = w.output := ⟨rfl, rfl, rfl⟩
  generalize w.drew.alloc (.cells cur 53) = w' at hget hlast hsize hos ⊢
  have hk : Keeps w g w' g := ⟨fun _ => Nat.le_refl _, fun k j v hj hv => by
    have hkl : k < w.heap.size := by
      rcases Nat.lt_or_ge k w.heap.size with h | h
      · exact h
      · rw [hfr k h] at hj; omega
    rw [World.cell?_of_block (a := ⟨k, j, none⟩) (hget k hkl)]; exact hv, Nat.le_refl _, fun _ _ => rfl⟩
  refine ⟨.own true 53 4 [], h, g, _, hq, rfl, ⟨⟨by decide, by simp, [], ⟨by simp, .inr ⟨w.heap.size, G, cur, rfl, Nat.le_refl _, hlast, Nat.zero_le _, hGm, hcs, by simp⟩⟩, by simp, fun j u hu => by simp [flat] at hu, fun b hb => ?_⟩, fun b hb k hk2 => ?_⟩, ?_, ?_, Nat.le_refl _, fun _ _ => rfl, fun _ _ => rfl, fun i hi1 hi2 => by omega, fun b hb => hfr b (by omega)⟩
  · simp only [Value.ownBlock, Option.some.injEq] at hb
    subst hb
    rw [hfr _ (Nat.le_refl _)]
    exact Nat.zero_le _
  · simp only [Value.ownBlock, Option.some.injEq] at hb
    subst hb
    have := hh.lt k hk2
    omega
  · exact ⟨hh.n, fun i hi => by have := hh.lt i hi; omega, hh.inj, fun i o ho => (hh.obj i o ho).keepAt hk ⟨hget _ (hh.lt i (by rw [← hh.n]; exact get_lt ho)), rfl⟩⟩
  · exact ⟨hos.1, hos.2.1, hos.2.2, by omega, fun k hk2 _ => hget k hk2⟩
end Go.Proofs.Lx
/- Lines one behind the other: Grow, Concat, Clone; what funds owe one another. -/
set_option linter.unusedSimpArgs false
set_option linter.unusedVariables false
namespace Go.Proofs.Lx
open Go.Vm Go.RowKit
attribute [local irreducible] awpArr awpBin awpMake awpAppend awpCvX awpStrOf awpBinX awpSlice awpBS awpStore awpAlloc awpCopy awpIndex awpDraw awpIdxX awpFa awpField awpLookup awpUpdate awpDelete awpClear awpRange awpNext awpEntry awpBuild awpClearS awpIdxL awpTree appB awpIdxO eltA treeA
def lnsAv (p : List Ln) : AV := .sl 4 (p.map lnAv)
def concatSpec : Vm.Spec := fun args h Q => ∃ ps : List (List Ln), ps.length ≤ 1048576 ∧ 1 ≤ ps.flatten.length ∧ ps.flatten.length ≤ 1048576 ∧ args = [.sl 1 (ps.map lnsAv)] ∧ Q (.own true 53 4 (ps.flatten.map lnAv)) h
theorem flat_take {α : Type} {ps : List (List α)} {i : Nat} (hi : i < ps.length) : (ps.take (i + 1)).flatten = (ps.take i).flatten ++ ps[i] ∧ (ps.take (i + 1)).flatten.length ≤ ps.flatten.length := by
  constructor
  · rw [List.take_succ_eq_append_getElem hi, List.flatten_append]; simp
  · have e : ps.flatten = (ps.take (i + 1)).flatten ++ (ps.drop (i + 1)).flatten := by rw [← List.flatten_append, List.take_append_drop]
    rw [e, List.length_append]; omega
set_option maxRecDepth 20000 in
set_option maxHeartbeats 1000000 in
theorem does_concatLn : Does Tryz.prog 86 concatSpec := by
  refine does_of_awp (good_cons does_growLn good_nil) Tryz.func86 rfl (by decide +kernel) (by decide +kernel) ?_
  rintro args h Q ⟨ps, hpl, hf1, hf2, rfl, hq⟩
  refine ⟨by simp [Tryz.f86], ?_⟩
  rw [awpFunc_some (by rfl)]
  simp -dsimp only [Vm.G, List.lookup, Nat.reduceAdd, Nat.reduceBEq, Int.reduceBNe, Int.reduceBEq, Nat.reduceLeDiff, q86]
  refine awp_loop (fun m s h' => ∃ i : Nat, i + m = ps.length ∧ h' = h ∧ s = mk [(0, .sl 1 (ps.map lnsAv)), (3, .v (.int .i64 ((ps.take (i)).flatten.length : Nat))), (9, .sl 1 (ps.map lnsAv)), (10, .v (.int .i64 ps.length)), (11, .v (.int .i64 (i : Nat)))])
    ps.length _ (le_mk _ ?_) ⟨0, by omega, rfl, rfl⟩ ?_
  · simp only [List.forall_mem_cons, List.not_mem_nil, false_imp_iff, implies_true, and_true]
    try simp -dsimp only [Vm.G, List.lookup, Nat.reduceAdd, Nat.reduceBEq, Int.reduceBNe, Int.reduceBEq, Nat.reduceLeDiff, q86]
    repeat' first | exact Fg.refl _ | exact Fg.nil _ _ _ (by decide) | refine And.intro ?_ ?_
  · rintro m s h' ⟨i, hi, rfl, rfl⟩
    simp -dsimp only [Vm.G, List.lookup, Nat.reduceAdd, Nat.reduceBEq, Int.reduceBNe, Int.reduceBEq, Nat.reduceLeDiff, q86]
    refine cond_intro (fun hcc => ?_) (fun hcc => ?_)
    · have hlt : i < ps.length := by have := of_decide_eq_true hcc; omega
      have hw : IntKind.i64.wrap ((i : Int) + 1) = ((i + 1 : Nat) : Int) := by rw [wrap_i64 (by omega) (by omega)]; simp
      have hft := flat_take hlt
      rcases hft with ⟨ft1, ft2⟩
      have hsum : (((ps.take i).flatten.length : Nat) : Int) + ((ps[i].length : Nat) : Int) = (((ps.take (i + 1)).flatten.length : Nat) : Int) := by rw [ft1, List.length_append]; omega
      have hxe : ∃ p, ps[i] = p := ⟨_, rfl⟩
      rcases hxe with ⟨p, hp⟩
      rw [hp] at hsum
      have hNe : ∃ N, N = (ps.take (i + 1)).flatten.length := ⟨_, rfl⟩
      rcases hNe with ⟨N, hN⟩
      rw [← hN] at hsum ft2
      have hwn : IntKind.i64.wrap ((N : Nat) : Int) = (N : Int) := wrap_i64 (by omega) (by omega)
      have hneg : decide ((N : Int) < 0) = false := decide_eq_false (by omega)
      simp -dsimp only [Vm.G, List.lookup, Nat.reduceAdd, Nat.reduceBEq, Int.reduceBNe, Int.reduceBEq, Nat.reduceLeDiff, q86]
      refine idx_map lnsAv ps i hlt ?_
      simp only [hp, lnsAv]
      simp -dsimp only [Vm.G, List.lookup, Nat.reduceAdd, Nat.reduceBEq, Int.reduceBNe, Int.reduceBEq, Nat.reduceLeDiff, q86, AV.cells, hsum, hwn, hneg]
      refine kept_intro ⟨ps.length - (i + 1), by omega, _, le_mk [(0, .sl 1 (ps.map lnsAv)), (3, .v (.int .i64 (N : Nat))), (9, .sl 1 (ps.map lnsAv)), (10, .v (.int .i64 ps.length)), (11, .v (.int .i64 (i + 1 : Nat)))] ?_, i + 1, by omega, rfl, ?_⟩
      · simp only [List.forall_mem_cons, List.not_mem_nil, false_imp_iff, implies_true, and_true, hw, lnsAv]
        try simp -dsimp only [Vm.G, List.lookup, Nat.reduceAdd, Nat.reduceBEq, Int.reduceBNe, Int.reduceBEq, Nat.reduceLeDiff, q86, hw, lnsAv]
        repeat' first | exact Fg.refl _ | exact Fg.nil _ _ _ (by decide) | refine And.intro ?_ ?_
      · rw [hN]
    · have hge : ¬ i < ps.length := by have := of_decide_eq_false hcc; omega
      clear hcc
      rw [List.take_of_length_le (by omega)]
      simp -dsimp only [Vm.G, List.lookup, Nat.reduceAdd, Nat.reduceBEq, Int.reduceBNe, Int.reduceBEq, Nat.reduceLeDiff, q86]
      refine call_one (S := growSpec) rfl _ GaL.rfl ⟨ps.flatten.length, rfl, hf1, hf2, ?_⟩
      simp -dsimp only [Vm.G, List.lookup, Nat.reduceAdd, Nat.reduceBEq, Int.reduceBNe, Int.reduceBEq, Nat.reduceLeDiff, q86]
      refine awp_loop (fun m s h2 => ∃ i : Nat, i + m = ps.length ∧ h2 = h' ∧ s = mk [(6, .own true 53 4 ((ps.take (i)).flatten.map lnAv)), (25, .sl 1 (ps.map lnsAv)), (26, .v (.int .i64 ps.length)), (27, .v (.int .i64 (i : Nat)))])
        ps.length _ (le_mk _ ?_) ⟨0, by omega, rfl, rfl⟩ ?_
      · simp only [List.forall_mem_cons, List.not_mem_nil, false_imp_iff, implies_true, and_true]
        try simp -dsimp only [Vm.G, List.lookup, Nat.reduceAdd, Nat.reduceBEq, Int.reduceBNe, Int.reduceBEq, Nat.reduceLeDiff, q86]
        repeat' first | exact Fg.refl _ | exact Fg.nil _ _ _ (by decide) | refine And.intro ?_ ?_
      · clear hge hi
        rintro m s h2 ⟨i, hi, rfl, rfl⟩
        simp -dsimp only [Vm.G, List.lookup, Nat.reduceAdd, Nat.reduceBEq, Int.reduceBNe, Int.reduceBEq, Nat.reduceLeDiff, q86]
        refine cond_intro (fun hcc => ?_) (fun hcc => ?_)
        · have hlt : i < ps.length := by have := of_decide_eq_true hcc; omega
          have hw : IntKind.i64.wrap ((i : Int) + 1) = ((i + 1 : Nat) : Int) := by rw [wrap_i64 (by omega) (by omega)]; simp
          have hft := flat_take hlt
          rcases hft with ⟨ft1, ft2⟩
          have hxe : ∃ p, ps[i] = p := ⟨_, rfl⟩
          rcases hxe with ⟨p, hp⟩
          have hl1 : (ps.take i).flatten.length + p.length ≤ 1048576 := by rw [ft1, hp, List.length_append] at ft2; omega
          rw [hp] at ft1
          simp -dsimp only [Vm.G, List.lookup, Nat.reduceAdd, Nat.reduceBEq, Int.reduceBNe, Int.reduceBEq, Nat.reduceLeDiff, q86]
          refine idx_map lnsAv ps i hlt ?_
          simp only [hp, lnsAv]
          simp -dsimp only [Vm.G, List.lookup, Nat.reduceAdd, Nat.reduceBEq, Int.reduceBNe, Int.reduceBEq, Nat.reduceLeDiff, q86, AV.cells]
          refine app_sl Tryz.underlying51 (fun c hc => by obtain ⟨y, -, rfl⟩ := List.mem_map.1 hc; rfl) (by simp only [List.length_map]; omega) ?_
          simp -dsimp only [Vm.G, List.lookup, Nat.reduceAdd, Nat.reduceBEq, Int.reduceBNe, Int.reduceBEq, Nat.reduceLeDiff, q86]
          refine kept_intro ⟨ps.length - (i + 1), by omega, _, le_mk [(6, .own true 53 4 ((ps.take (i + 1)).flatten.map lnAv)), (25, .sl 1 (ps.map lnsAv)), (26, .v (.int .i64 ps.length)), (27, .v (.int .i64 (i + 1 : Nat)))] ?_, i + 1, by omega, rfl, rfl⟩
          simp only [List.forall_mem_cons, List.not_mem_nil, false_imp_iff, implies_true, and_true, hw, ft1, List.map_append, lnsAv]
          try simp -dsimp only [Vm.G, List.lookup, Nat.reduceAdd, Nat.reduceBEq, Int.reduceBNe, Int.reduceBEq, Nat.reduceLeDiff, q86, hw, ft1, List.map_append, lnsAv]
          repeat' first | exact Fg.refl _ | exact Fg.nil _ _ _ (by decide) | refine And.intro ?_ ?_
        · have hge : ¬ i < ps.length := by have := of_decide_eq_false hcc; omega
          rw [List.take_of_length_le (by omega)]
          simp -dsimp only [Vm.G, List.lookup, Nat.reduceAdd, Nat.reduceBEq, Int.reduceBNe, Int.reduceBEq, Nat.reduceLeDiff, q86]
          exact hq
def cloneLnSpec : Vm.Spec := fun args h Q => ∃ l : List Ln, l.length ≤ 1048576 ∧ args = [.sl 4 (l.map lnAv)] ∧ (∀ v, v = .own true 53 4 (l.map lnAv) ∨ (l = [] ∧ v = .v (.slice none 0 0)) → Q v h)
theorem does_cloneLn : Does Tryz.prog 20 cloneLnSpec := by
  refine does_of_awp good_nil Tryz.func20 rfl (by decide +kernel) (by decide +kernel) ?_
  rintro args h Q ⟨l, hl, rfl, hq⟩
  refine ⟨by simp [Tryz.f20], ?_⟩
  rw [awpFunc_some (by rfl)]
  simp -dsimp only [Vm.G, List.lookup, Nat.reduceAdd, Nat.reduceBEq, Int.reduceBNe, Int.reduceBEq, Nat.reduceLeDiff, q20]
  refine nil_slice Tryz.underlying51 (nilSl_sl fun b hb => ?_)
  cases b
  · simp -dsimp only [Vm.G, List.lookup, Nat.reduceAdd, Nat.reduceBEq, Int.reduceBNe, Int.reduceBEq, Nat.reduceLeDiff, q20]
    refine bs_intro zr53 (by decide) (by decide) rfl rfl (by simp [solid, AV.cells]) ?_
    simp -dsimp only [Vm.G, List.lookup, Nat.reduceAdd, Nat.reduceBEq, Int.reduceBNe, Int.reduceBEq, Nat.reduceLeDiff, q20]
    refine app_sl Tryz.underlying51 (fun c hc => by obtain ⟨y, -, rfl⟩ := List.mem_map.1 hc; rfl) (by simp only [List.length_map, List.length_nil]; omega) ?_
    simp -dsimp only [Vm.G, List.lookup, Nat.reduceAdd, Nat.reduceBEq, Int.reduceBNe, Int.reduceBEq, Nat.reduceLeDiff, q20, List.nil_append]
    exact hq _ (.inl rfl)
  · have hl0 : l = [] := by simpa using hb rfl
    subst hl0
    simp -dsimp only [Vm.G, List.lookup, Nat.reduceAdd, Nat.reduceBEq, Int.reduceBNe, Int.reduceBEq, Nat.reduceLeDiff, q20]
    exact hq _ (.inr ⟨rfl, rfl⟩)
def owedSpec : Vm.Spec := fun args h Q => ∃ x : Ln, args = [lnAv x] ∧ (x.amt > 0 → Q (.own true 53 4 ((owedL x).map lnAv)) h) ∧ (x.amt < 0 → Q (.own true 53 4 ((owedL x).map lnAv)) h) ∧ (x.amt = 0 → Q (.sl 4 ((owedL x).map lnAv)) h)
theorem does_owed0 : Does Tryz.prog 124 (fun args h Q => ∃ x : Ln, args = [lnAv x] ∧ (x.amt > 0 → Q (.own true 53 4 ((owedL x).map lnAv)) h) ∧ (x.amt < 0 → Q (.own true 53 4 ((owedL x).map lnAv)) h) ∧ (x.amt = 0 → Q (.v (.slice none 0 0)) h)) := by
  refine does_of_awp good_nil Tryz.func124 rfl (by decide +kernel) (by decide +kernel) ?_
  rintro args h Q ⟨x, rfl, hq1, hq2, hq3⟩
  refine ⟨by simp [Tryz.f124], ?_⟩
  rw [awpFunc_some (by rfl)]
  unfold owedL at hq1 hq2
  simp only [lnAv, lnCells]
  by_cases h1 : x.amt > 0
  · have c1 : decide (x.amt > 0) = true := decide_eq_true h1
    have hq := hq1 h1
    rw [if_pos h1] at hq
    simp -dsimp only [Vm.G, List.lookup, Nat.reduceAdd, Nat.reduceBEq, Int.reduceBNe, Int.reduceBEq, Nat.reduceLeDiff, q124, c1]
    refine bs_intro zr53 (by decide) (by decide) rfl rfl (by simp [solid, AV.cells]) ?_
    simp -dsimp only [Vm.G, List.lookup, Nat.reduceAdd, Nat.reduceBEq, Int.reduceBNe, Int.reduceBEq, Nat.reduceLeDiff, q124]
    exact hq
  · have c1 : decide (x.amt > 0) = false := decide_eq_false h1
    by_cases h2 : x.amt < 0
    · have c2 : decide (x.amt < 0) = true := decide_eq_true h2
      have hq := hq2 h2
      rw [if_neg h1, if_pos h2] at hq
      simp -dsimp only [Vm.G, List.lookup, Nat.reduceAdd, Nat.reduceBEq, Int.reduceBNe, Int.reduceBEq, Nat.reduceLeDiff, q124, c1, c2]
      refine bs_intro zr53 (by decide) (by decide) rfl rfl (by simp [solid, AV.cells]) ?_
      simp -dsimp only [Vm.G, List.lookup, Nat.reduceAdd, Nat.reduceBEq, Int.reduceBNe, Int.reduceBEq, Nat.reduceLeDiff, q124]
      exact hq
    · have c2 : decide (x.amt < 0) = false := decide_eq_false h2
      simp -dsimp only [Vm.G, List.lookup, Nat.reduceAdd, Nat.reduceBEq, Int.reduceBNe, Int.reduceBEq, Nat.reduceLeDiff, q124, c1, c2]
      exact hq3 (by omega)
theorem does_owed : Does Tryz.prog 124 owedSpec := by
  refine does_owed0.weak.imp ?_
  rintro args h Q ⟨x, rfl, hq1, hq2, hq3⟩
  exact ⟨x, rfl, fun h1 => ⟨_, .refl _, hq1 h1⟩, fun h1 => ⟨_, .refl _, hq2 h1⟩, fun h1 => ⟨_, .nil 4, by
    have e : owedL x = [] := by unfold owedL; rw [if_neg (by omega), if_neg (by omega)]
    have := hq3 h1
    rw [e] at this
    exact this⟩⟩
theorem owed_len (x : Ln) : (owedL x).length ≤ 1 := by
  unfold owedL
  split
  · exact Nat.le_refl _
  · split
    · exact Nat.le_refl _
    · exact Nat.zero_le _
theorem balance_len : ∀ r : List Ln, (balanceL r).length ≤ r.length
  | [] => Nat.zero_le _
  | x :: r => by
    have h1 := owed_len x
    have h2 := balance_len r
    show (owedL x ++ balanceL r).length ≤ r.length + 1
    rw [List.length_append]; omega
theorem balance_take {r : List Ln} {i : Nat} (hi : i < r.length) : balanceL (r.take (i + 1)) = balanceL (r.take i) ++ owedL r[i] := by
  unfold balanceL
  rw [List.take_succ_eq_append_getElem hi, List.flatMap_append]
  simp
def balanceSpec : Vm.Spec := fun args h Q => ∃ l : List Ln, l.length ≤ 1048576 ∧ args = [.sl 4 (l.map lnAv)] ∧ ∀ r h', IsFunds l r → Same h h' [] → Q (.own true 53 4 ((balanceL r).map lnAv)) h'
set_option maxRecDepth 20000 in
set_option maxHeartbeats 1000000 in
theorem does_balance : Does Tryz.prog 87 balanceSpec := by
  refine does_of_awp (good_cons does_funds (good_cons does_owed good_nil)) Tryz.func87 rfl (by decide +kernel) (by decide +kernel) ?_
  rintro args h Q ⟨l, hl, rfl, hq⟩
  refine ⟨by simp [Tryz.f87], ?_⟩
  rw [awpFunc_some (by rfl)]
  simp -dsimp only [Vm.G, List.lookup, Nat.reduceAdd, Nat.reduceBEq, Int.reduceBNe, Int.reduceBEq, Nat.reduceLeDiff, q87]
  refine call_one (S := fundsSpec) rfl _ GaL.rfl ⟨l, by omega, rfl, fun r h1 hr hs1 => ?_⟩
  have hrl := hr.len
  simp -dsimp only [Vm.G, List.lookup, Nat.reduceAdd, Nat.reduceBEq, Int.reduceBNe, Int.reduceBEq, Nat.reduceLeDiff, q87]
  refine awp_loop (fun m s h' => ∃ i : Nat, i + m = r.length ∧ h' = h1 ∧ s = mk [(3, .own true 53 4 ((balanceL (r.take (i))).map lnAv)), (7, .own true 53 4 (r.map lnAv)), (8, .v (.int .i64 r.length)), (9, .v (.int .i64 (i : Nat)))])
    r.length _ (le_mk _ ?_) ⟨0, by omega, rfl, rfl⟩ ?_
  · simp only [List.forall_mem_cons, List.not_mem_nil, false_imp_iff, implies_true, and_true]
    try simp -dsimp only [Vm.G, List.lookup, Nat.reduceAdd, Nat.reduceBEq, Int.reduceBNe, Int.reduceBEq, Nat.reduceLeDiff, q87]
    repeat' first | exact Fg.refl _ | exact Fg.nil _ _ _ (by decide) | refine And.intro ?_ ?_
  · rintro m s h' ⟨i, hi, rfl, rfl⟩
    simp -dsimp only [Vm.G, List.lookup, Nat.reduceAdd, Nat.reduceBEq, Int.reduceBNe, Int.reduceBEq, Nat.reduceLeDiff, q87]
    refine cond_intro (fun hcc => ?_) (fun hcc => ?_)
    · have hlt : i < r.length := by have := of_decide_eq_true hcc; omega
      have hw : IntKind.i64.wrap ((i : Int) + 1) = ((i + 1 : Nat) : Int) := by rw [wrap_i64 (by omega) (by omega)]; simp
      have htk := balance_take hlt
      have hbl := balance_len (r.take i)
      rw [List.length_take] at hbl
      have hgi : (r.map lnAv)[i]? = some (lnAv r[i]) := by simp [hlt]
      generalize r[i] = x at htk hgi
      have hol := owed_len x
      simp -dsimp only [Vm.G, List.lookup, Nat.reduceAdd, Nat.reduceBEq, Int.reduceBNe, Int.reduceBEq, Nat.reduceLeDiff, q87]
      refine idxO_intro (by omega) (by simp; omega) ?_
      simp -dsimp only [Vm.G, List.lookup, Nat.reduceAdd, Nat.reduceBEq, Int.reduceBNe, Int.reduceBEq, Nat.reduceLeDiff, q87, Int.toNat_natCast]
      refine eltA_intro hgi ?_
      simp only [lnAv, lnCells]
      simp -dsimp only [Vm.G, List.lookup, Nat.reduceAdd, Nat.reduceBEq, Int.reduceBNe, Int.reduceBEq, Nat.reduceLeDiff, q87, AV.cells, List.drop_zero]
      refine call_one (S := owedSpec) rfl _ GaL.rfl ⟨x, rfl, fun h3 => ?_, fun h3 => ?_, fun h3 => ?_⟩
      · simp -dsimp only [Vm.G, List.lookup, Nat.reduceAdd, Nat.reduceBEq, Int.reduceBNe, Int.reduceBEq, Nat.reduceLeDiff, q87]
        refine app_sl Tryz.underlying51 (fun c hc => by obtain ⟨y, -, rfl⟩ := List.mem_map.1 hc; rfl) (by simp only [List.length_map]; omega) ?_
        simp -dsimp only [Vm.G, List.lookup, Nat.reduceAdd, Nat.reduceBEq, Int.reduceBNe, Int.reduceBEq, Nat.reduceLeDiff, q87]
        refine kept_intro ⟨r.length - (i + 1), by omega, _, le_mk [(3, .own true 53 4 ((balanceL (r.take (i + 1))).map lnAv)), (7, .own true 53 4 (r.map lnAv)), (8, .v (.int .i64 r.length)), (9, .v (.int .i64 (i + 1 : Nat)))] ?_, i + 1, by omega, rfl, rfl⟩
        simp only [List.forall_mem_cons, List.not_mem_nil, false_imp_iff, implies_true, and_true, hw, htk, List.map_append]
        try simp -dsimp only [Vm.G, List.lookup, Nat.reduceAdd, Nat.reduceBEq, Int.reduceBNe, Int.reduceBEq, Nat.reduceLeDiff, q87, hw, htk, List.map_append]
        repeat' first | exact Fg.refl _ | exact Fg.nil _ _ _ (by decide) | refine And.intro ?_ ?_
      · simp -dsimp only [Vm.G, List.lookup, Nat.reduceAdd, Nat.reduceBEq, Int.reduceBNe, Int.reduceBEq, Nat.reduceLeDiff, q87]
        refine app_sl Tryz.underlying51 (fun c hc => by obtain ⟨y, -, rfl⟩ := List.mem_map.1 hc; rfl) (by simp only [List.length_map]; omega) ?_
        simp -dsimp only [Vm.G, List.lookup, Nat.reduceAdd, Nat.reduceBEq, Int.reduceBNe, Int.reduceBEq, Nat.reduceLeDiff, q87]
        refine kept_intro ⟨r.length - (i + 1), by omega, _, le_mk [(3, .own true 53 4 ((balanceL (r.take (i + 1))).map lnAv)), (7, .own true 53 4 (r.map lnAv)), (8, .v (.int .i64 r.length)), (9, .v (.int .i64 (i + 1 : Nat)))] ?_, i + 1, by omega, rfl, rfl⟩
        simp only [List.forall_mem_cons, List.not_mem_nil, false_imp_iff, implies_true, and_true, hw, htk, List.map_append]
        try simp -dsimp only [Vm.G, List.lookup, Nat.reduceAdd, Nat.reduceBEq, Int.reduceBNe, Int.reduceBEq, Nat.reduceLeDiff, q87, hw, htk, List.map_append]
        repeat' first | exact Fg.refl _ | exact Fg.nil _ _ _ (by decide) | refine And.intro ?_ ?_
      · simp -dsimp only [Vm.G, List.lookup, Nat.reduceAdd, Nat.reduceBEq, Int.reduceBNe, Int.reduceBEq, Nat.reduceLeDiff, q87]
        refine app_sl Tryz.underlying51 (fun c hc => by obtain ⟨y, -, rfl⟩ := List.mem_map.1 hc; rfl) (by simp only [List.length_map]; omega) ?_
        simp -dsimp only [Vm.G, List.lookup, Nat.reduceAdd, Nat.reduceBEq, Int.reduceBNe, Int.reduceBEq, Nat.reduceLeDiff, q87]
        refine kept_intro ⟨r.length - (i + 1), by omega, _, le_mk [(3, .own true 53 4 ((balanceL (r.take (i + 1))).map lnAv)), (7, .own true 53 4 (r.map lnAv)), (8, .v (.int .i64 r.length)), (9, .v (.int .i64 (i + 1 : Nat)))] ?_, i + 1, by omega, rfl, rfl⟩
        simp only [List.forall_mem_cons, List.not_mem_nil, false_imp_iff, implies_true, and_true, hw, htk, List.map_append]
        try simp -dsimp only [Vm.G, List.lookup, Nat.reduceAdd, Nat.reduceBEq, Int.reduceBNe, Int.reduceBEq, Nat.reduceLeDiff, q87, hw, htk, List.map_append]
        repeat' first | exact Fg.refl _ | exact Fg.nil _ _ _ (by decide) | refine And.intro ?_ ?_
    · have hge : ¬ i < r.length := by have := of_decide_eq_false hcc; omega
      rw [List.take_of_length_le (by omega)]
      simp -dsimp only [Vm.G, List.lookup, Nat.reduceAdd, Nat.reduceBEq, Int.reduceBNe, Int.reduceBEq, Nat.reduceLeDiff, q87]
      exact hq r _ hr hs1
def allLSpec : Vm.Spec := fun args h Q => ∃ l : List Ln, 1 ≤ l.length ∧ l.length ≤ 4096 ∧ args = [.sl 4 (l.map lnAv)] ∧ ∀ r h', IsFunds l r → Same h h' [] → Q (.own true 53 4 ((l ++ balanceL r).map lnAv)) h'
set_option maxHeartbeats 1000000 in
theorem does_allL : Does Tryz.prog 55 allLSpec := by
  refine does_of_awp (good_cons does_balance (good_cons does_concatLn good_nil)) Tryz.func55 rfl (by decide +kernel) (by decide +kernel) ?_
  rintro args h Q ⟨l, hl1, hl2, rfl, hq⟩
  refine ⟨by simp [Tryz.f55], ?_⟩
  rw [awpFunc_some (by rfl)]
  simp -dsimp only [Vm.G, List.lookup, Nat.reduceAdd, Nat.reduceBEq, Int.reduceBNe, Int.reduceBEq, Nat.reduceLeDiff, q55]
  refine call_one (S := balanceSpec) rfl _ GaL.rfl ⟨l, by omega, rfl, fun r h1 hr hs1 => ?_⟩
  have hbl := balance_len r
  have hrl := hr.len
  simp -dsimp only [Vm.G, List.lookup, Nat.reduceAdd, Nat.reduceBEq, Int.reduceBNe, Int.reduceBEq, Nat.reduceLeDiff, q55]
  refine bs_intro zr51 (by decide) (by decide) rfl rfl (by simp [solid, AV.cells]) ?_
  simp -dsimp only [Vm.G, List.lookup, Nat.reduceAdd, Nat.reduceBEq, Int.reduceBNe, Int.reduceBEq, Nat.reduceLeDiff, q55]
  refine call_one (S := concatSpec) rfl _ GaL.rfl ⟨[l, balanceL r], by simp, by simp; omega, by simp; omega, rfl, ?_⟩
  simp -dsimp only [Vm.G, List.lookup, Nat.reduceAdd, Nat.reduceBEq, Int.reduceBNe, Int.reduceBEq, Nat.reduceLeDiff, q55]
  have e : [l, balanceL r].flatten = l ++ balanceL r := by simp
  rw [e]
  exact hq r h1 hr hs1
end Go.Proofs.Lx
/- An entry stands: entry.stand, entry.Put. -/
set_option linter.unusedSimpArgs false
set_option linter.unusedVariables false
namespace Go.Proofs.Lx
open Go.Vm
attribute [local irreducible] awpArr awpBin awpMake awpAppend awpCvX awpStrOf awpBinX awpSlice awpBS awpStore awpAlloc awpCopy awpIndex awpDraw awpIdxX awpFa awpField awpLookup awpUpdate awpDelete awpClear awpRange awpNext awpEntry awpBuild awpClearS awpIdxL awpTree appB awpIdxO eltA treeA
def standSpec : Vm.Spec := fun args h Q => ∃ (V : VId) (f : Fun) (e : En) (all : List Ln), e.ok ∧ (∀ x ∈ all, x.ok) ∧ all.length ≤ 1048576 ∧ args = [.agg [.ptr V.iv 0], .agg (enCells e), .sl 4 (all.map lnAv)] ∧ isView h V f ∧
  ∀ h', isView h' V (standF f e.year e.kind e.of' all).1 → Same h h' [V.ic] → Q (.tup [.v (.int .i64 (standF f e.year e.kind e.of' all).2.1), .v (.int .i64 (standF f e.year e.kind e.of' all).2.2)]) h'
theorem post_cons (y id : Int) (i : Nat) (x : Ln) (r : List Ln) (f : Fun) : postL y id i (x :: r) f = if (balAdd (upd f (jK id i) (some (jV x))) (balK y x.fund x.obj) x.amt).2 ≠ 0 then balAdd (upd f (jK id i) (some (jV x))) (balK y x.fund x.obj) x.amt
    else postL y id (i + 1) r (balAdd (upd f (jK id i) (some (jV x))) (balK y x.fund x.obj) x.amt).1 := rfl
set_option maxRecDepth 20000 in
set_option maxHeartbeats 4000000 in
theorem does_stand : Does Tryz.prog 54 standSpec := by
  refine does_of_awp (good_cons does_yCheck (good_cons does_seqNext (good_cons does_post (good_cons does_recEn (good_cons does_jset good_nil))))) Tryz.func54 rfl (by decide +kernel) (by decide +kernel) ?_
  rintro args h Q ⟨V, f, e, all, heo, hao, hal, rfl, hV, hq⟩
  refine ⟨by simp [Tryz.f54], ?_⟩
  rw [awpFunc_some (by rfl)]
  rcases e with ⟨eid, y, kind, elines, of', eby⟩
  rcases heo with ⟨o1, o2, o3, o4, o5, o6⟩
  simp only at hq o1 o2 o3 o4 o5 o6
  simp only [enCells]
  simp -dsimp only [Vm.G, List.lookup, Nat.reduceAdd, Nat.reduceBEq, Int.reduceBNe, Int.reduceBEq, Nat.reduceLeDiff, q54]
  refine call_one (S := yCheckSpec) rfl _ GaL.rfl ⟨V, f, y, rfl, hV, ?_⟩
  have h0 := Bool.eq_false_or_eq_true (checkY f y != 0)
  rcases h0 with c | c
  · have d : checkY f y ≠ 0 := by simpa using c
    have hsf : standF f y kind of' all = (f, 0, checkY f y) := by unfold standF; rw [if_pos d]
    rw [hsf] at hq
    simp -dsimp only [Vm.G, List.lookup, Nat.reduceAdd, Nat.reduceBEq, Int.reduceBNe, Int.reduceBEq, Nat.reduceLeDiff, q54, c]
    exact hq h hV (.refl _ _)
  · have d : ¬ checkY f y ≠ 0 := by simpa using c
    simp -dsimp only [Vm.G, List.lookup, Nat.reduceAdd, Nat.reduceBEq, Int.reduceBNe, Int.reduceBEq, Nat.reduceLeDiff, q54, c]
    refine call_one (S := seqNextSpec) rfl _ GaL.rfl ⟨V, f, 1, rfl, hV, fun hb => ?_, fun hb h1 hV1 hs1 => ?_⟩
    · have hsf : standF f y kind of' all = (f, 0, 9) := by unfold standF; rw [if_neg d, if_pos hb]
      rw [hsf] at hq
      simp -dsimp only [Vm.G, List.lookup, Nat.reduceAdd, Nat.reduceBEq, Int.reduceBNe, Int.reduceBEq, Nat.reduceLeDiff, q54]
      exact hq h hV (.refl _ _)
    · have hsf : standF f y kind of' all = if (postL y (readOf f (seqKey 1) + 1) 0 all (upd f (seqKey 1) (some (be 8 (readOf f (seqKey 1) + 1))))).2 ≠ 0 then
          ((postL y (readOf f (seqKey 1) + 1) 0 all (upd f (seqKey 1) (some (be 8 (readOf f (seqKey 1) + 1))))).1, 0, (postL y (readOf f (seqKey 1) + 1) 0 all (upd f (seqKey 1) (some (be 8 (readOf f (seqKey 1) + 1))))).2)
          else (upd (postL y (readOf f (seqKey 1) + 1) 0 all (upd f (seqKey 1) (some (be 8 (readOf f (seqKey 1) + 1))))).1 (enK (readOf f (seqKey 1) + 1)) (some (enV y kind all.length of' 0)), readOf f (seqKey 1) + 1, 0) := by
        unfold standF; rw [if_neg d, if_neg hb]
      rw [hsf] at hq
      have hid : I64 (readOf f (seqKey 1) + 1) := by unfold I64; omega
      clear hsf d hb c
      generalize readOf f (seqKey 1) + 1 = id at hq hid hV1 ⊢
      generalize upd f (seqKey 1) (some (be 8 id)) = f1 at hq hV1
      simp -dsimp only [Vm.G, List.lookup, Nat.reduceAdd, Nat.reduceBEq, Int.reduceBNe, Int.reduceBEq, Nat.reduceLeDiff, q54, bne_self_eq_false]
      refine awp_loop (fun m s h' => ∃ (i : Nat) (f2 : Fun), i + m = all.length ∧ isView h' V f2 ∧ Same h h' [V.ic] ∧ postL y id 0 all f1 = postL y id i (all.drop i) f2 ∧ s = mk [(2, .sl 4 (all.map lnAv)), (3, .box [.ptr V.iv 0]), (4, .box [.v (.int .i64 eid), .v (.int .i64 y), .v (.int .i64 kind), .v (.int .i64 elines), .v (.int .i64 of'), .v (.int .i64 eby)]), (9, .v (.int .i64 id)), (32, .sl 4 (all.map lnAv)), (33, .v (.int .i64 all.length)), (34, .v (.int .i64 (i : Nat)))])
        all.length _ (le_mk _ ?_) ⟨0, f1, by omega, hV1, hs1, by rw [List.drop_zero], rfl⟩ ?_
      · simp only [List.forall_mem_cons, List.not_mem_nil, false_imp_iff, implies_true, and_true]
        try simp -dsimp only [Vm.G, List.lookup, Nat.reduceAdd, Nat.reduceBEq, Int.reduceBNe, Int.reduceBEq, Nat.reduceLeDiff, q54]
        repeat' first | exact Fg.refl _ | exact Fg.nil _ _ _ (by decide) | refine And.intro ?_ ?_
      · rintro m s h' ⟨i, f2, hi, hV2, hs2, hp, rfl⟩
        simp -dsimp only [Vm.G, List.lookup, Nat.reduceAdd, Nat.reduceBEq, Int.reduceBNe, Int.reduceBEq, Nat.reduceLeDiff, q54]
        refine cond_intro (fun hcc => ?_) (fun hcc => ?_)
        · have hlt : i < all.length := by have := of_decide_eq_true hcc; omega
          have hw : IntKind.i64.wrap ((i : Int) + 1) = ((i + 1 : Nat) : Int) := by rw [wrap_i64 (by omega) (by omega)]; simp
          have hxo := hao all[i] (List.getElem_mem hlt)
          have hxe : ∃ x, all[i] = x := ⟨_, rfl⟩
          rcases hxe with ⟨x, hx⟩
          rw [hx] at hxo
          rw [List.drop_eq_getElem_cons hlt, hx, post_cons] at hp
          simp -dsimp only [Vm.G, List.lookup, Nat.reduceAdd, Nat.reduceBEq, Int.reduceBNe, Int.reduceBEq, Nat.reduceLeDiff, q54]
          refine idx_map lnAv all i hlt ?_
          simp only [hx, lnAv, lnCells]
          simp -dsimp only [Vm.G, List.lookup, Nat.reduceAdd, Nat.reduceBEq, Int.reduceBNe, Int.reduceBEq, Nat.reduceLeDiff, q54, AV.cells]
          refine call_one (S := postSpec) rfl _ GaL.rfl ⟨V, f2, y, id, i, x, hid, by unfold I64; omega, hxo, rfl, hV2, fun h3 g1 g2 => ?_⟩
          generalize balAdd (upd f2 (jK id i) (some (jV x))) (balK y x.fund x.obj) x.amt = q at hp g1 ⊢
          rcases q with ⟨f3, qe⟩
          simp only at hp g1 ⊢
          have h0 := Bool.eq_false_or_eq_true (qe != 0)
          rcases h0 with c | c
          · have d : qe ≠ 0 := by simpa using c
            rw [if_pos d] at hp
            rw [hp, if_pos d] at hq
            simp -dsimp only [Vm.G, List.lookup, Nat.reduceAdd, Nat.reduceBEq, Int.reduceBNe, Int.reduceBEq, Nat.reduceLeDiff, q54, c]
            exact hq h3 g1 (hs2.trans g2)
          · have d : ¬ qe ≠ 0 := by simpa using c
            rw [if_neg d] at hp
            simp -dsimp only [Vm.G, List.lookup, Nat.reduceAdd, Nat.reduceBEq, Int.reduceBNe, Int.reduceBEq, Nat.reduceLeDiff, q54, c]
            refine kept_intro ⟨all.length - (i + 1), by omega, _, le_mk [(2, .sl 4 (all.map lnAv)), (3, .box [.ptr V.iv 0]), (4, .box [.v (.int .i64 eid), .v (.int .i64 y), .v (.int .i64 kind), .v (.int .i64 elines), .v (.int .i64 of'), .v (.int .i64 eby)]), (9, .v (.int .i64 id)), (32, .sl 4 (all.map lnAv)), (33, .v (.int .i64 all.length)), (34, .v (.int .i64 (i + 1 : Nat)))] ?_, i + 1, f3, by omega, g1, hs2.trans g2, hp, rfl⟩
            simp only [List.forall_mem_cons, List.not_mem_nil, false_imp_iff, implies_true, and_true, hw]
            try simp -dsimp only [Vm.G, List.lookup, Nat.reduceAdd, Nat.reduceBEq, Int.reduceBNe, Int.reduceBEq, Nat.reduceLeDiff, q54, hw]
            repeat' first | exact Fg.refl _ | exact Fg.nil _ _ _ (by decide) | refine And.intro ?_ ?_
        · have hge : ¬ i < all.length := by have := of_decide_eq_false hcc; omega
          rw [List.drop_eq_nil_of_le (by omega)] at hp
          have hp2 : postL y id 0 all f1 = (f2, 0) := hp
          rw [hp2] at hq
          simp only [ne_eq, not_true, if_false] at hq
          have hal2 : I64 (all.length : Int) := by unfold I64; omega
          clear hcc hp hp2
          simp -dsimp only [Vm.G, List.lookup, Nat.reduceAdd, Nat.reduceBEq, Int.reduceBNe, Int.reduceBEq, Nat.reduceLeDiff, q54]
          refine draw_cont [3, 4] (.take 0 (.take 1 (.alt 2 (.alt 3 (.alt 4 (.done) .stop) .stop) .stop))) (fun s h3 => isView h3 V (upd f2 (enK id) (some (enV y kind all.length of' 0))) ∧ Same h h3 [V.ic] ∧ s 14 = .v (.int .i64 0) ∧ s 9 = .v (.int .i64 id)) (by kernel_rfl) (by kernel_rfl) (by kernel_rfl) (by decide) ?_ ?_
          · clear hq
            simp -dsimp only [Vm.G, List.lookup, Nat.reduceAdd, Nat.reduceBEq, Int.reduceBNe, Int.reduceBEq, Nat.reduceLeDiff, q54, AV.cells]
            refine call_one (S := renSpec) rfl _ GaL.rfl ⟨⟨id, y, kind, all.length, of', 0⟩, ⟨hid, o2, o3, hal2, o5, show I64 0 by unfold I64; omega⟩, rfl, ?_⟩
            simp -dsimp only [Vm.G, List.lookup, Nat.reduceAdd, Nat.reduceBEq, Int.reduceBNe, Int.reduceBEq, Nat.reduceLeDiff, q54]
            refine call_one (S := dsetSpec) rfl _ GaL.rfl ⟨V, f2, enK id, enV y kind all.length of' 0, rfl, right_en _ _ _ _ _ _, hV2, fun h3 g1 g2 => ?_⟩
            simp -dsimp only [Vm.G, List.lookup, Nat.reduceAdd, Nat.reduceBEq, Int.reduceBNe, Int.reduceBEq, Nat.reduceLeDiff, q54]
            refine ⟨g1, hs2.trans g2, ?_⟩
            repeat' first | rfl | exact True.intro | refine And.intro ?_ ?_
          · rintro s h3 ⟨g1, g2, e14, e9⟩
            simp -dsimp only [Vm.G, List.lookup, Nat.reduceAdd, Nat.reduceBEq, Int.reduceBNe, Int.reduceBEq, Nat.reduceLeDiff, q54, e14, e9, bne_self_eq_false]
            exact hq h3 g1 g2
def entrySpec : Vm.Spec := fun args h Q => ∃ (V : VId) (f : Fun) (e : En) (l : List Ln), e.ok ∧ (∀ x ∈ l, x.ok) ∧ l.length ≤ 1048576 ∧ args = [.ptr V.iv 0, .agg (enCells e), .sl 4 (l.map lnAv)] ∧ isView h V f ∧
  (l.length = 0 ∨ 200 < l.length → Q (.tup [.v (.int .i64 0), .v (.int .i64 1)]) h) ∧
  (¬ (l.length = 0 ∨ 200 < l.length) → ∀ r h', IsFunds l r → isView h' V (standF f e.year e.kind e.of' (l ++ balanceL r)).1 → Same h h' [V.ic] → Q (.tup [.v (.int .i64 (standF f e.year e.kind e.of' (l ++ balanceL r)).2.1), .v (.int .i64 (standF f e.year e.kind e.of' (l ++ balanceL r)).2.2)]) h')
theorem balance_ok {r : List Ln} {l : List Ln} (hr : IsFunds l r) (hl : ∀ x ∈ l, x.ok) : ∀ x ∈ balanceL r, x.ok := fun x hx => by
  obtain ⟨y, hy, hxy⟩ := List.mem_flatMap.1 hx
  obtain ⟨⟨z, hz, e1⟩, e2⟩ := (hr.2 y).1 hy
  have hf : I64 y.fund := by rw [← e1]; exact (hl z hz).1
  unfold owedL at hxy
  split at hxy
  · rw [List.mem_singleton] at hxy; subst hxy
    exact ⟨hf, show I64 2900 by unfold I64; omega, show I64 0 by unfold I64; omega, w64_range _⟩
  · split at hxy
    · rw [List.mem_singleton] at hxy; subst hxy
      exact ⟨hf, show I64 1900 by unfold I64; omega, show I64 0 by unfold I64; omega, w64_range _⟩
    · simp at hxy
set_option maxRecDepth 20000 in
set_option maxHeartbeats 1000000 in
theorem does_entry : Does Tryz.prog 21 entrySpec := by
  refine does_of_awp (good_cons does_allL (good_cons does_stand good_nil)) Tryz.func21 rfl (by decide +kernel) (by decide +kernel) ?_
  rintro args h Q ⟨V, f, e, l, heo, hlo, hl, rfl, hV, hq1, hq2⟩
  refine ⟨by simp [Tryz.f21], ?_⟩
  rw [awpFunc_some (by rfl)]
  have h0 := Bool.eq_false_or_eq_true ((l.length : Int) == 0)
  rcases h0 with c | c
  · have d : l.length = 0 := by
      have : (l.length : Int) = 0 := by simpa using c
      omega
    simp only [enCells]
    simp -dsimp only [Vm.G, List.lookup, Nat.reduceAdd, Nat.reduceBEq, Int.reduceBNe, Int.reduceBEq, Nat.reduceLeDiff, q21, c]
    exact hq1 (.inl d)
  · have d : ¬ l.length = 0 := by
      have : ¬ (l.length : Int) = 0 := by simpa using c
      omega
    have h0 := Bool.eq_false_or_eq_true (decide ((l.length : Int) > 200))
    rcases h0 with c2 | c2
    · have d2 : 200 < l.length := by have := of_decide_eq_true c2; omega
      simp only [enCells]
      simp -dsimp only [Vm.G, List.lookup, Nat.reduceAdd, Nat.reduceBEq, Int.reduceBNe, Int.reduceBEq, Nat.reduceLeDiff, q21, c, c2]
      exact hq1 (.inr d2)
    · have d2 : ¬ 200 < l.length := by have := of_decide_eq_false c2; omega
      have hq := hq2 (by omega)
      clear hq1 hq2
      rcases e with ⟨eid, y, kind, elines, of', eby⟩
      simp only at hq
      simp only [enCells]
      simp -dsimp only [Vm.G, List.lookup, Nat.reduceAdd, Nat.reduceBEq, Int.reduceBNe, Int.reduceBEq, Nat.reduceLeDiff, q21, c, c2]
      refine draw_cont [4] (.take 0 (.take 2 (.take 3 (.alt 1 (.alt 4 (.alt 5 (.take 6 (.take 7 (.alt 8 (.alt 9 (.done) .stop) .stop))) .stop) .stop) (.alt 4 (.alt 1 (.alt 5 (.take 6 (.take 7 (.alt 8 (.alt 9 (.done) .stop) .stop))) .stop) .stop) (.stop)))))) (fun s h' => ∃ (r : List Ln), IsFunds l r ∧ isView h' V (standF f y kind of' (l ++ balanceL r)).1 ∧ Same h h' [V.ic] ∧ s 6 = .v (.int .i64 (standF f y kind of' (l ++ balanceL r)).2.1) ∧ s 7 = .v (.int .i64 (standF f y kind of' (l ++ balanceL r)).2.2)) (by kernel_rfl) (by kernel_rfl) (by kernel_rfl) (by decide) ?_ ?_
      · clear hq
        have hallok : ∀ r, IsFunds l r → ∀ x ∈ l ++ balanceL r, x.ok := fun r hr x hx => by
          rcases List.mem_append.1 hx with hx | hx
          · exact hlo x hx
          · exact balance_ok hr hlo x hx
        have hsame : ∀ {h1 h2 : Heap}, Same h h1 [] → Same h1 h2 [V.ic] → Same h h2 [V.ic] := fun {h1 h2} a b => ⟨Nat.le_trans a.1 b.1, fun j hj hm => by
          rw [b.2 j (Nat.lt_of_lt_of_le hj a.1) hm, a.2 j hj (by simp)]⟩
        repeat' first
          | with_reducible exact True.intro
          | simp -dsimp only [Vm.G, List.lookup, Nat.reduceAdd, Nat.reduceBEq, Int.reduceBNe, Int.reduceBEq, Nat.reduceLeDiff, q21]
          | (refine call_one (S := allLSpec) rfl _ GaL.rfl ⟨l, by omega, by omega, rfl, fun r h1 hr hs1 => ?_⟩
             have hbl := balance_len r
             have hrl := hr.len
             have hV1 := hV.same hs1 (by simp))
          | refine call_one (S := standSpec) rfl _ GaL.rfl ⟨V, f, ⟨eid, y, kind, elines, of', eby⟩, l ++ balanceL r, heo, hallok r hr, by rw [List.length_append]; omega, rfl, hV1, fun h2 g1 g2 => ?_⟩
          | refine tree_alt ?_ ?_
          | refine ⟨r, hr, g1, hsame hs1 g2, ?_⟩
          | repeat' first | rfl | exact True.intro | refine And.intro ?_ ?_
      · rintro s h' ⟨r, hr, g1, g2, e6, e7⟩
        simp -dsimp only [Vm.G, List.lookup, Nat.reduceAdd, Nat.reduceBEq, Int.reduceBNe, Int.reduceBEq, Nat.reduceLeDiff, q21, e6, e7]
        exact hq r h' hr g1 g2
end Go.Proofs.Lx
/- What all funds have; what is due: trial.*, law27.awake. -/
set_option linter.unusedSimpArgs false
set_option linter.unusedVariables false
namespace Go.Proofs.Lx
open Go.Vm
attribute [local irreducible] awpArr awpBin awpMake awpAppend awpCvX awpStrOf awpBinX awpSlice awpBS awpStore awpAlloc awpCopy awpIndex awpDraw awpIdxX awpFa awpField awpLookup awpUpdate awpDelete awpClear awpRange awpNext awpEntry awpBuild awpClearS awpIdxL awpTree appB awpIdxO eltA treeA
def smCells (s : Sm) : List AV := [.v (.int .i64 s.fund), .v (.int .i64 s.deb), .v (.int .i64 s.cred)]
def smAv (s : Sm) : AV := .agg (smCells s)
def addSmSpec : Vm.Spec := fun args h Q => ∃ (s : Sm) (x : Ln), args = [smAv s, lnAv x] ∧ Q (smAv (addS s x)) h
theorem does_addSm : Does Tryz.prog 77 addSmSpec := by
  refine does_of_awp good_nil Tryz.func77 rfl (by decide +kernel) (by decide +kernel) ?_
  rintro args h Q ⟨s, x, rfl, hq⟩
  refine ⟨by simp [Tryz.f77], ?_⟩
  rw [awpFunc_some (by rfl)]
  rcases s with ⟨fu, de, cr⟩
  rcases x with ⟨xf, xo, xn, xa⟩
  unfold addS at hq
  simp only [smAv, smCells, lnAv, lnCells] at hq ⊢
  by_cases h1 : xa > 0
  · have c1 : decide (xa > 0) = true := decide_eq_true h1
    rw [if_pos h1] at hq
    simp -dsimp only [Vm.G, List.lookup, Nat.reduceAdd, Nat.reduceBEq, Int.reduceBNe, Int.reduceBEq, Nat.reduceLeDiff, q77, c1]
    exact hq
  · have c1 : decide (xa > 0) = false := decide_eq_false h1
    rw [if_neg h1] at hq
    simp -dsimp only [Vm.G, List.lookup, Nat.reduceAdd, Nat.reduceBEq, Int.reduceBNe, Int.reduceBEq, Nat.reduceLeDiff, q77, c1]
    exact hq
/-- The last sum's fund. -/
def lastNe (out : List Sm) (n : Int) : Bool := match out.getLast? with
  | some s => s.fund != n
  | none => true
theorem sum_len (out : List Sm) (x : Ln) : (sumStep out x).length ≤ out.length + 1 := by
  unfold sumStep
  split
  · split
    · rw [List.length_append, List.length_dropLast]; simp only [List.length_cons, List.length_nil]; omega
    · simp
  · simp
theorem sum_new {out : List Sm} {x : Ln} (h : lastNe out x.fund = true) : sumStep out x = out ++ [addS ⟨x.fund, 0, 0⟩ x] := by
  unfold lastNe at h
  unfold sumStep
  cases he : out.getLast? with
  | none =>
    rw [List.getLast?_eq_none_iff] at he
    subst he; rfl
  | some s =>
    rw [he] at h
    have : ¬ s.fund = x.fund := by simpa using h
    simp only
    rw [if_neg this]
theorem sum_old {out : List Sm} {x : Ln} (h : lastNe out x.fund = false) : ∃ o s, out = o ++ [s] ∧ s.fund = x.fund ∧ sumStep out x = o ++ [addS s x] := by
  unfold lastNe at h
  unfold sumStep
  cases he : out.getLast? with
  | none => rw [he] at h; cases h
  | some s =>
    rw [he] at h
    have hs : s.fund = x.fund := by simpa using h
    obtain ⟨o, ho⟩ := List.getLast?_eq_some_iff.1 he
    refine ⟨o, s, ho, hs, ?_⟩
    simp only
    rw [if_pos hs, ho, List.dropLast_concat]
theorem sums_take {l : List Ln} {i : Nat} (hi : i < l.length) : sumsL (l.take (i + 1)) = sumStep (sumsL (l.take i)) l[i] := by
  unfold sumsL
  rw [List.take_succ_eq_append_getElem hi, List.foldl_append]; rfl
theorem sums_len (l : List Ln) : ∀ i, i ≤ l.length → (sumsL (l.take i)).length ≤ i
  | 0, _ => Nat.le_refl _
  | i + 1, h => by
    rw [sums_take (by omega)]
    exact Nat.le_trans (sum_len _ _) (Nat.succ_le_succ (sums_len l i (by omega)))
def sumsSpec : Vm.Spec := fun args h Q => ∃ (V : VId) (f : Fun) (year : Int), args = [.ptr V.iv 0, .v (.int .i64 year)] ∧ isView h V f ∧ f.n ≤ 536870912 ∧
  ∀ l h', ScanIs f (keyOf 66 [year]) l → isView h' V f → Same h h' [] → (sumsL (allB year l)).length ≤ 1073741824 → Q (.own true 91 3 ((sumsL (allB year l)).map smAv)) h'
set_option maxRecDepth 20000 in
set_option maxHeartbeats 4000000 in
theorem does_sums : Does Tryz.prog 50 sumsSpec := by
  refine does_of_awp (good_cons does_balAll (good_cons does_addSm good_nil)) Tryz.func50 rfl (by decide +kernel) (by decide +kernel) ?_
  rintro args h Q ⟨V, f, year, rfl, hV, hn, hq⟩
  refine ⟨by simp [Tryz.f50], ?_⟩
  rw [awpFunc_some (by rfl)]
  simp -dsimp only [Vm.G, List.lookup, Nat.reduceAdd, Nat.reduceBEq, Int.reduceBNe, Int.reduceBEq, Nat.reduceLeDiff, q50]
  refine call_one (S := balAllSpec) rfl _ GaL.rfl ⟨V, f, year, rfl, hV, hn, fun kv h1 hsc hkl hV1 hs1 => ?_⟩
  have hal : (allB year kv).length ≤ kv.length := List.length_filterMap_le ..
  have hq' := hq kv h1 hsc hV1 hs1
  clear hq
  generalize allB year kv = l at hal hq' ⊢
  have hll : l.length ≤ 1073741824 := by omega
  clear hal hkl hsc
  simp -dsimp only [Vm.G, List.lookup, Nat.reduceAdd, Nat.reduceBEq, Int.reduceBNe, Int.reduceBEq, Nat.reduceLeDiff, q50]
  refine awp_loop (fun m s h' => ∃ i : Nat, i + m = l.length ∧ h' = h1 ∧ s = mk [(5, .own true 91 3 ((sumsL (l.take (i))).map smAv)), (12, .own true 53 4 (l.map lnAv)), (13, .v (.int .i64 l.length)), (14, .v (.int .i64 (i : Nat)))])
    l.length _ (le_mk _ ?_) ⟨0, by omega, rfl, rfl⟩ ?_
  · simp only [List.forall_mem_cons, List.not_mem_nil, false_imp_iff, implies_true, and_true]
    try simp -dsimp only [Vm.G, List.lookup, Nat.reduceAdd, Nat.reduceBEq, Int.reduceBNe, Int.reduceBEq, Nat.reduceLeDiff, q50]
    repeat' first | exact Fg.refl _ | exact Fg.nil _ _ _ (by decide) | refine And.intro ?_ ?_
  · rintro m s h' ⟨i, hi, rfl, rfl⟩
    simp -dsimp only [Vm.G, List.lookup, Nat.reduceAdd, Nat.reduceBEq, Int.reduceBNe, Int.reduceBEq, Nat.reduceLeDiff, q50]
    refine cond_intro (fun hcc => ?_) (fun hcc => ?_)
    · have hlt : i < l.length := by have := of_decide_eq_true hcc; omega
      have hw : IntKind.i64.wrap ((i : Int) + 1) = ((i + 1 : Nat) : Int) := by rw [wrap_i64 (by omega) (by omega)]; simp
      have htk := sums_take hlt
      have hsl := sums_len l i (by omega)
      have hgi : (l.map lnAv)[i]? = some (lnAv l[i]) := by simp [hlt]
      generalize l[i] = x at htk hgi
      have hoe : ∃ out, sumsL (l.take i) = out := ⟨_, rfl⟩
      rcases hoe with ⟨out, ho⟩
      rw [ho] at htk hsl ⊢
      simp -dsimp only [Vm.G, List.lookup, Nat.reduceAdd, Nat.reduceBEq, Int.reduceBNe, Int.reduceBEq, Nat.reduceLeDiff, q50]
      refine idxO_intro (by omega) (by simp; omega) ?_
      simp -dsimp only [Vm.G, List.lookup, Nat.reduceAdd, Nat.reduceBEq, Int.reduceBNe, Int.reduceBEq, Nat.reduceLeDiff, q50, Int.toNat_natCast]
      refine eltA_intro hgi ?_
      simp only [lnAv, lnCells]
      simp -dsimp only [Vm.G, List.lookup, Nat.reduceAdd, Nat.reduceBEq, Int.reduceBNe, Int.reduceBEq, Nat.reduceLeDiff, q50, AV.cells, List.drop_zero]
      refine draw_cont [7] (.take 0 (.take 1 (.take 2 (.take 3 (.take 4 (.take 5 (.take 6 (.take 7 (.take 9 (.alt 8 (.alt 10 (.take 11 (.take 12 (.done))) .stop) (.alt 10 (.alt 8 (.take 11 (.take 12 (.done))) .stop) (.stop)))))))))))) (fun s hx => hx = h' ∧ s 32 = .v (.bool (lastNe out x.fund)) ∧ s 5 = .own true 91 3 (out.map smAv) ∧ s 7 = .eptr [.v (.int .i64 x.fund), .v (.int .i64 x.obj), .v (.int .i64 x.node), .v (.int .i64 x.amt)] ∧ s 12 = .own true 53 4 (l.map lnAv) ∧ s 13 = .v (.int .i64 l.length) ∧ s 14 = .v (.int .i64 i)) (by kernel_rfl) (by kernel_rfl) (by kernel_rfl) (by decide) ?_ ?_
      · clear hq'
        by_cases hne : out = []
        · have c1 : ((out.length : Int) == 0) = true := by simp [hne]
          have hv : lastNe out x.fund = true := by rw [hne]; rfl
          simp only [hv]
          repeat' first
            | with_reducible exact True.intro
            | simp -dsimp only [Vm.G, List.lookup, Nat.reduceAdd, Nat.reduceBEq, Int.reduceBNe, Int.reduceBEq, Nat.reduceLeDiff, q50, c1, List.length_map]
            | refine tree_alt ?_ ?_
            | repeat' first | rfl | exact True.intro | refine And.intro ?_ ?_
        · have hoe : ∃ o s, out = o ++ [s] := ⟨_, _, (List.dropLast_concat_getLast hne).symm⟩
          rcases hoe with ⟨o, sl, hos⟩
          have hol : out.length = o.length + 1 := by rw [hos]; simp
          have c1 : ((out.length : Int) == 0) = false := by simp [hol]; omega
          have hw1 : IntKind.i64.wrap ((out.length : Int) - 1) = ((o.length : Nat) : Int) := by rw [wrap_i64 (by omega) (by omega)]; omega
          have hgl : (out.map smAv)[o.length]? = some (smAv sl) := by rw [hos]; simp
          have hv : lastNe out x.fund = (sl.fund != x.fund) := by rw [hos]; unfold lastNe; simp
          simp only [hv]
          repeat' first
            | with_reducible exact True.intro
            | (refine eltA_intro hgl ?_; simp only [smAv, smCells])
            | refine idxO_intro (by omega) (by simp; omega) ?_
            | simp -dsimp only [Vm.G, List.lookup, Nat.reduceAdd, Nat.reduceBEq, Int.reduceBNe, Int.reduceBEq, Nat.reduceLeDiff, q50, c1, hw1, AV.cells, List.drop_zero, Int.toNat_natCast, List.length_map]
            | refine tree_alt ?_ ?_
            | repeat' first | rfl | exact True.intro | refine And.intro ?_ ?_
      · rintro s hx ⟨rfl, e32, e5, e7, e12, e13, e14⟩
        have h0 := Bool.eq_false_or_eq_true (lastNe out x.fund)
        rcases h0 with c | c
        · rw [c] at e32
          have hst := sum_new c
          rw [hst] at htk
          have hLe : ∃ L, L = out ++ [⟨x.fund, 0, 0⟩] := ⟨_, rfl⟩
          rcases hLe with ⟨L, hL⟩
          have hfin : out.map smAv ++ [AV.agg [.v (.int .i64 x.fund), .v (.int .i64 0), .v (.int .i64 0)]] = L.map smAv := by rw [hL]; simp [smAv, smCells]
          have hLl : L.length = out.length + 1 := by rw [hL]; simp
          have hw1 : IntKind.i64.wrap ((L.length : Int) - 1) = ((out.length : Nat) : Int) := by rw [wrap_i64 (by omega) (by omega)]; omega
          have hgl : (L.map smAv)[out.length]? = some (smAv ⟨x.fund, 0, 0⟩) := by rw [hL]; simp
          have hre : (L.map smAv).set out.length (.agg [.v (.int .i64 (addS ⟨x.fund, 0, 0⟩ x).fund), .v (.int .i64 (addS ⟨x.fund, 0, 0⟩ x).deb), .v (.int .i64 (addS ⟨x.fund, 0, 0⟩ x).cred)]) = (out ++ [addS ⟨x.fund, 0, 0⟩ x]).map smAv := by
            rw [hL, List.map_append, List.set_append_right _ _ (by simp), List.map_append]; simp [smAv, smCells]
          simp -dsimp only [Vm.G, List.lookup, Nat.reduceAdd, Nat.reduceBEq, Int.reduceBNe, Int.reduceBEq, Nat.reduceLeDiff, q50, e32, e5, e7, e12, e13, e14]
          refine bs_intro zr91 (by decide) (by decide) rfl rfl (by simp [solid, AV.cells]) ?_
          simp -dsimp only [Vm.G, List.lookup, Nat.reduceAdd, Nat.reduceBEq, Int.reduceBNe, Int.reduceBEq, Nat.reduceLeDiff, q50, e32, e5, e7, e12, e13, e14]
          refine app_sl Tryz.underlying89 (by simp [AV.cells]) (by simp only [List.length_map, List.length_cons, List.length_nil]; omega) ?_
          simp -dsimp only [Vm.G, List.lookup, Nat.reduceAdd, Nat.reduceBEq, Int.reduceBNe, Int.reduceBEq, Nat.reduceLeDiff, q50, e32, e5, e7, e12, e13, e14, hfin]
          refine draw_cont [] (.take 0 (.take 1 (.take 2 (.take 3 (.take 4 (.take 6 (.alt 5 (.alt 7 (.take 8 (.alt 9 (.done) .stop)) .stop) .stop))))))) (fun s h9 => h9 = hx ∧ s 5 = .own true 91 3 ((out ++ [addS ⟨x.fund, 0, 0⟩ x]).map smAv) ∧ s 12 = .own true 53 4 (l.map lnAv) ∧ s 13 = .v (.int .i64 l.length) ∧ s 14 = .v (.int .i64 i)) (by kernel_rfl) (by kernel_rfl) (by kernel_rfl) (by decide) ?_ ?_
          · clear hq'
            repeat' first
              | with_reducible exact True.intro
              | (refine eltA_intro hgl ?_; simp only [smAv, smCells])
              | refine idxO_intro (by omega) (by simp; omega) ?_
              | (refine call_one (S := addSmSpec) rfl _ GaL.rfl ⟨⟨x.fund, 0, 0⟩, x, rfl, ?_⟩; simp only [smAv, smCells])
              | (refine store_elt 91 ((L).map smAv) (by simp -dsimp only [Vm.E, List.lookup, Nat.reduceAdd, Nat.reduceBEq, Int.reduceBNe, Int.reduceBEq, Bool.true_beq, Bool.false_beq, e5, hfin]) (y := smAv ⟨x.fund, 0, 0⟩) hgl rfl rfl (by omega) rfl ?_
                 simp only [smAv, smCells, AV.cells, putCells, reCell, List.take_zero, List.nil_append, List.length_cons, List.length_nil, Nat.zero_add, Nat.reduceAdd, List.drop_succ_cons, List.drop_zero, List.append_nil, List.drop_nil])
              | simp -dsimp only [Vm.G, List.lookup, Nat.reduceAdd, Nat.reduceBEq, Int.reduceBNe, Int.reduceBEq, Nat.reduceLeDiff, q50, e5, e7, e12, e13, e14, hfin, hw1, hre, AV.cells, List.drop_zero, Int.toNat_natCast, List.length_map]
              | refine tree_alt ?_ ?_
              | repeat' first | rfl | exact True.intro | refine And.intro ?_ ?_
          · rintro s h9 ⟨rfl, g5, g12, g13, g14⟩
            simp -dsimp only [Vm.G, List.lookup, Nat.reduceAdd, Nat.reduceBEq, Int.reduceBNe, Int.reduceBEq, Nat.reduceLeDiff, q50, g5, g12, g13, g14]
            refine kept_intro ⟨l.length - (i + 1), by omega, _, le_mk [(5, .own true 91 3 ((sumsL (l.take (i + 1))).map smAv)), (12, .own true 53 4 (l.map lnAv)), (13, .v (.int .i64 l.length)), (14, .v (.int .i64 (i + 1 : Nat)))] ?_, i + 1, by omega, rfl, rfl⟩
            simp only [List.forall_mem_cons, List.not_mem_nil, false_imp_iff, implies_true, and_true, hw, htk, g5, g12, g13, g14]
            try simp -dsimp only [Vm.G, List.lookup, Nat.reduceAdd, Nat.reduceBEq, Int.reduceBNe, Int.reduceBEq, Nat.reduceLeDiff, q50, hw, htk, g5, g12, g13, g14]
            repeat' first | exact Fg.refl _ | exact Fg.nil _ _ _ (by decide) | refine And.intro ?_ ?_
        · rw [c] at e32
          have hst := sum_old c
          rcases hst with ⟨o, sl, hos, hsf, hst⟩
          rw [hst] at htk
          have hol : out.length = o.length + 1 := by rw [hos]; simp
          have hw1 : IntKind.i64.wrap ((out.length : Int) - 1) = ((o.length : Nat) : Int) := by rw [wrap_i64 (by omega) (by omega)]; omega
          have hgl : (out.map smAv)[o.length]? = some (smAv sl) := by rw [hos]; simp
          have hfin : True := trivial
          have hre : (out.map smAv).set o.length (.agg [.v (.int .i64 (addS sl x).fund), .v (.int .i64 (addS sl x).deb), .v (.int .i64 (addS sl x).cred)]) = (o ++ [addS sl x]).map smAv := by
            rw [hos, List.map_append, List.set_append_right _ _ (by simp), List.map_append]; simp [smAv, smCells]
          simp -dsimp only [Vm.G, List.lookup, Nat.reduceAdd, Nat.reduceBEq, Int.reduceBNe, Int.reduceBEq, Nat.reduceLeDiff, q50, e32, e5, e7, e12, e13, e14]
          refine draw_cont [] (.take 0 (.take 1 (.take 2 (.take 3 (.take 4 (.take 6 (.alt 5 (.alt 7 (.take 8 (.alt 9 (.done) .stop)) .stop) .stop))))))) (fun s h9 => h9 = hx ∧ s 5 = .own true 91 3 ((o ++ [addS sl x]).map smAv) ∧ s 12 = .own true 53 4 (l.map lnAv) ∧ s 13 = .v (.int .i64 l.length) ∧ s 14 = .v (.int .i64 i)) (by kernel_rfl) (by kernel_rfl) (by kernel_rfl) (by decide) ?_ ?_
          · clear hq'
            repeat' first
              | with_reducible exact True.intro
              | (refine eltA_intro hgl ?_; simp only [smAv, smCells])
              | refine idxO_intro (by omega) (by simp; omega) ?_
              | (refine call_one (S := addSmSpec) rfl _ GaL.rfl ⟨sl, x, rfl, ?_⟩; simp only [smAv, smCells])
              | (refine store_elt 91 ((out).map smAv) (by simp -dsimp only [Vm.E, List.lookup, Nat.reduceAdd, Nat.reduceBEq, Int.reduceBNe, Int.reduceBEq, Bool.true_beq, Bool.false_beq, e5, hfin]) (y := smAv sl) hgl rfl rfl (by omega) rfl ?_
                 simp only [smAv, smCells, AV.cells, putCells, reCell, List.take_zero, List.nil_append, List.length_cons, List.length_nil, Nat.zero_add, Nat.reduceAdd, List.drop_succ_cons, List.drop_zero, List.append_nil, List.drop_nil])
              | simp -dsimp only [Vm.G, List.lookup, Nat.reduceAdd, Nat.reduceBEq, Int.reduceBNe, Int.reduceBEq, Nat.reduceLeDiff, q50, e5, e7, e12, e13, e14, hfin, hw1, hre, AV.cells, List.drop_zero, Int.toNat_natCast, List.length_map]
              | refine tree_alt ?_ ?_
              | repeat' first | rfl | exact True.intro | refine And.intro ?_ ?_
          · rintro s h9 ⟨rfl, g5, g12, g13, g14⟩
            simp -dsimp only [Vm.G, List.lookup, Nat.reduceAdd, Nat.reduceBEq, Int.reduceBNe, Int.reduceBEq, Nat.reduceLeDiff, q50, g5, g12, g13, g14]
            refine kept_intro ⟨l.length - (i + 1), by omega, _, le_mk [(5, .own true 91 3 ((sumsL (l.take (i + 1))).map smAv)), (12, .own true 53 4 (l.map lnAv)), (13, .v (.int .i64 l.length)), (14, .v (.int .i64 (i + 1 : Nat)))] ?_, i + 1, by omega, rfl, rfl⟩
            simp only [List.forall_mem_cons, List.not_mem_nil, false_imp_iff, implies_true, and_true, hw, htk, g5, g12, g13, g14]
            try simp -dsimp only [Vm.G, List.lookup, Nat.reduceAdd, Nat.reduceBEq, Int.reduceBNe, Int.reduceBEq, Nat.reduceLeDiff, q50, hw, htk, g5, g12, g13, g14]
            repeat' first | exact Fg.refl _ | exact Fg.nil _ _ _ (by decide) | refine And.intro ?_ ?_
    · have hge : ¬ i < l.length := by have := of_decide_eq_false hcc; omega
      have hsl := sums_len l l.length (Nat.le_refl _)
      rw [List.take_of_length_le (Nat.le_refl _)] at hsl
      rw [List.take_of_length_le (by omega)]
      simp -dsimp only [Vm.G, List.lookup, Nat.reduceAdd, Nat.reduceBEq, Int.reduceBNe, Int.reduceBEq, Nat.reduceLeDiff, q50]
      exact hq' (by omega)
def togSpec : Vm.Spec := fun args h Q => ∃ (l : List Ln) (o : Int), l.length ≤ 1073741824 ∧ args = [.sl 4 (l.map lnAv), .v (.int .i64 o)] ∧ Q (.v (.int .i64 (dueL l o))) h
theorem due_take {l : List Ln} {i : Nat} {o : Int} (hi : i < l.length) : dueL (l.take (i + 1)) o = if l[i].obj == o then w64 (dueL (l.take i) o + l[i].amt) else dueL (l.take i) o := by
  unfold dueL
  rw [List.take_succ_eq_append_getElem hi, List.filter_append, List.filter_cons, List.filter_nil]
  split
  · rw [List.map_append]; simp [w64s]
  · simp
set_option maxRecDepth 20000 in
theorem does_tog : Does Tryz.prog 76 togSpec := by
  refine does_of_awp good_nil Tryz.func76 rfl (by decide +kernel) (by decide +kernel) ?_
  rintro args h Q ⟨l, o, hl, rfl, hq⟩
  refine ⟨by simp [Tryz.f76], ?_⟩
  rw [awpFunc_some (by rfl)]
  simp -dsimp only [Vm.G, List.lookup, Nat.reduceAdd, Nat.reduceBEq, Int.reduceBNe, Int.reduceBEq, Nat.reduceLeDiff, q76]
  refine awp_loop (fun m s h' => ∃ i : Nat, i + m = l.length ∧ h' = h ∧ s = mk [(1, .v (.int .i64 o)), (5, .v (.int .i64 (dueL (l.take (i)) o))), (8, .sl 4 (l.map lnAv)), (9, .v (.int .i64 l.length)), (10, .v (.int .i64 (i : Nat)))])
    l.length _ (le_mk _ ?_) ⟨0, by omega, rfl, rfl⟩ ?_
  · simp only [List.forall_mem_cons, List.not_mem_nil, false_imp_iff, implies_true, and_true]
    try simp -dsimp only [Vm.G, List.lookup, Nat.reduceAdd, Nat.reduceBEq, Int.reduceBNe, Int.reduceBEq, Nat.reduceLeDiff, q76]
    repeat' first | exact Fg.refl _ | exact Fg.nil _ _ _ (by decide) | refine And.intro ?_ ?_
  · rintro m s h' ⟨i, hi, rfl, rfl⟩
    simp -dsimp only [Vm.G, List.lookup, Nat.reduceAdd, Nat.reduceBEq, Int.reduceBNe, Int.reduceBEq, Nat.reduceLeDiff, q76]
    refine cond_intro (fun hcc => ?_) (fun hcc => ?_)
    · have hlt : i < l.length := by have := of_decide_eq_true hcc; omega
      have hw : IntKind.i64.wrap ((i : Int) + 1) = ((i + 1 : Nat) : Int) := by rw [wrap_i64 (by omega) (by omega)]; simp
      have htk := due_take (o := o) hlt
      have hxe : ∃ x, l[i] = x := ⟨_, rfl⟩
      rcases hxe with ⟨x, hx⟩
      rw [hx] at htk
      simp -dsimp only [Vm.G, List.lookup, Nat.reduceAdd, Nat.reduceBEq, Int.reduceBNe, Int.reduceBEq, Nat.reduceLeDiff, q76]
      refine idx_map lnAv l i hlt ?_
      simp only [hx, lnAv, lnCells]
      simp -dsimp only [Vm.G, List.lookup, Nat.reduceAdd, Nat.reduceBEq, Int.reduceBNe, Int.reduceBEq, Nat.reduceLeDiff, q76, AV.cells]
      have h0 := Bool.eq_false_or_eq_true (x.obj == o)
      rcases h0 with c | c
      · rw [c, if_pos rfl] at htk
        simp -dsimp only [Vm.G, List.lookup, Nat.reduceAdd, Nat.reduceBEq, Int.reduceBNe, Int.reduceBEq, Nat.reduceLeDiff, q76, c]
        refine kept_intro ⟨l.length - (i + 1), by omega, _, le_mk [(1, .v (.int .i64 o)), (5, .v (.int .i64 (dueL (l.take (i + 1)) o))), (8, .sl 4 (l.map lnAv)), (9, .v (.int .i64 l.length)), (10, .v (.int .i64 (i + 1 : Nat)))] ?_, i + 1, by omega, rfl, rfl⟩
        simp only [List.forall_mem_cons, List.not_mem_nil, false_imp_iff, implies_true, and_true, hw, htk]
        try simp -dsimp only [Vm.G, List.lookup, Nat.reduceAdd, Nat.reduceBEq, Int.reduceBNe, Int.reduceBEq, Nat.reduceLeDiff, q76, hw, htk]
        repeat' first | exact Fg.refl _ | exact Fg.nil _ _ _ (by decide) | refine And.intro ?_ ?_
      · rw [c] at htk
        simp only [Bool.false_eq_true, if_false] at htk
        simp -dsimp only [Vm.G, List.lookup, Nat.reduceAdd, Nat.reduceBEq, Int.reduceBNe, Int.reduceBEq, Nat.reduceLeDiff, q76, c]
        refine kept_intro ⟨l.length - (i + 1), by omega, _, le_mk [(1, .v (.int .i64 o)), (5, .v (.int .i64 (dueL (l.take (i + 1)) o))), (8, .sl 4 (l.map lnAv)), (9, .v (.int .i64 l.length)), (10, .v (.int .i64 (i + 1 : Nat)))] ?_, i + 1, by omega, rfl, rfl⟩
        simp only [List.forall_mem_cons, List.not_mem_nil, false_imp_iff, implies_true, and_true, hw, htk]
        try simp -dsimp only [Vm.G, List.lookup, Nat.reduceAdd, Nat.reduceBEq, Int.reduceBNe, Int.reduceBEq, Nat.reduceLeDiff, q76, hw, htk]
        repeat' first | exact Fg.refl _ | exact Fg.nil _ _ _ (by decide) | refine And.intro ?_ ?_
    · have hge : ¬ i < l.length := by have := of_decide_eq_false hcc; omega
      rw [List.take_of_length_le (by omega)]
      simp -dsimp only [Vm.G, List.lookup, Nat.reduceAdd, Nat.reduceBEq, Int.reduceBNe, Int.reduceBEq, Nat.reduceLeDiff, q76]
      exact hq
def dueSpec : Vm.Spec := fun args h Q => ∃ (V : VId) (f : Fun) (year : Int), args = [.ptr V.iv 0, .v (.int .i64 year)] ∧ isView h V f ∧ f.n ≤ 536870912 ∧
  ∀ l h', ScanIs f (keyOf 66 [year]) l → isView h' V f → Same h h' [] → Q (.tup [.v (.int .i64 (dueL (allB year l) 1900)), .v (.int .i64 (w64 (0 - dueL (allB year l) 2900)))]) h'
theorem does_due : Does Tryz.prog 48 dueSpec := by
  refine does_of_awp (good_cons does_balAll (good_cons does_tog good_nil)) Tryz.func48 rfl (by decide +kernel) (by decide +kernel) ?_
  rintro args h Q ⟨V, f, year, rfl, hV, hn, hq⟩
  refine ⟨by simp [Tryz.f48], ?_⟩
  rw [awpFunc_some (by rfl)]
  simp -dsimp only [Vm.G, List.lookup, Nat.reduceAdd, Nat.reduceBEq, Int.reduceBNe, Int.reduceBEq, Nat.reduceLeDiff, q48]
  refine call_one (S := balAllSpec) rfl _ GaL.rfl ⟨V, f, year, rfl, hV, hn, fun kv h1 hsc hkl hV1 hs1 => ?_⟩
  have hal : (allB year kv).length ≤ kv.length := List.length_filterMap_le ..
  have hq' := hq kv h1 hsc hV1 hs1
  clear hq
  generalize allB year kv = l at hal hq' ⊢
  simp -dsimp only [Vm.G, List.lookup, Nat.reduceAdd, Nat.reduceBEq, Int.reduceBNe, Int.reduceBEq, Nat.reduceLeDiff, q48]
  refine call_one (S := togSpec) rfl _ GaL.rfl ⟨l, 1900, by omega, rfl, ?_⟩
  simp -dsimp only [Vm.G, List.lookup, Nat.reduceAdd, Nat.reduceBEq, Int.reduceBNe, Int.reduceBEq, Nat.reduceLeDiff, q48]
  refine call_one (S := togSpec) rfl _ GaL.rfl ⟨l, 2900, by omega, rfl, ?_⟩
  simp -dsimp only [Vm.G, List.lookup, Nat.reduceAdd, Nat.reduceBEq, Int.reduceBNe, Int.reduceBEq, Nat.reduceLeDiff, q48]
  exact hq'
def trightSpec : Vm.Spec := fun args h Q => ∃ (V : VId) (f : Fun) (year : Int), args = [.ptr V.iv 0, .v (.int .i64 year)] ∧ isView h V f ∧ f.n ≤ 536870912 ∧
  ∀ l h', ScanIs f (keyOf 66 [year]) l → isView h' V f → Same h h' [] → Q (.v (.bool (rightT (allB year l)))) h'
set_option maxRecDepth 20000 in
set_option maxHeartbeats 1000000 in
theorem does_tright : Does Tryz.prog 22 trightSpec := by
  refine does_of_awp (good_cons does_sums (good_cons does_due good_nil)) Tryz.func22 rfl (by decide +kernel) (by decide +kernel) ?_
  rintro args h Q ⟨V, f, year, rfl, hV, hn, hq⟩
  refine ⟨by simp [Tryz.f22], ?_⟩
  rw [awpFunc_some (by rfl)]
  simp -dsimp only [Vm.G, List.lookup, Nat.reduceAdd, Nat.reduceBEq, Int.reduceBNe, Int.reduceBEq, Nat.reduceLeDiff, q22]
  refine call_one (S := sumsSpec) rfl _ GaL.rfl ⟨V, f, year, rfl, hV, hn, fun kv h1 hsc hV1 hs1 hsl => ?_⟩
  have hqa := hq kv
  unfold rightT at hqa
  have hse : ∃ sm, sumsL (allB year kv) = sm := ⟨_, rfl⟩
  rcases hse with ⟨sm, hsm⟩
  rw [hsm] at hqa hsl ⊢
  clear hq
  simp -dsimp only [Vm.G, List.lookup, Nat.reduceAdd, Nat.reduceBEq, Int.reduceBNe, Int.reduceBEq, Nat.reduceLeDiff, q22]
  refine awp_loop (fun m s h' => ∃ i : Nat, i + m = sm.length ∧ h' = h1 ∧ (∀ t ∈ sm.take i, (t.deb == t.cred) = true) ∧ s = mk [(0, .ptr V.iv 0), (1, .v (.int .i64 year)), (11, .own true 91 3 (sm.map smAv)), (12, .v (.int .i64 sm.length)), (13, .v (.int .i64 (i : Nat)))])
    sm.length _ (le_mk _ ?_) ⟨0, by omega, rfl, by simp, rfl⟩ ?_
  · simp only [List.forall_mem_cons, List.not_mem_nil, false_imp_iff, implies_true, and_true]
    try simp -dsimp only [Vm.G, List.lookup, Nat.reduceAdd, Nat.reduceBEq, Int.reduceBNe, Int.reduceBEq, Nat.reduceLeDiff, q22]
    repeat' first | exact Fg.refl _ | exact Fg.nil _ _ _ (by decide) | refine And.intro ?_ ?_
  · rintro m s h' ⟨i, hi, rfl, hall, rfl⟩
    simp -dsimp only [Vm.G, List.lookup, Nat.reduceAdd, Nat.reduceBEq, Int.reduceBNe, Int.reduceBEq, Nat.reduceLeDiff, q22]
    refine cond_intro (fun hcc => ?_) (fun hcc => ?_)
    · have hlt : i < sm.length := by have := of_decide_eq_true hcc; omega
      have hw : IntKind.i64.wrap ((i : Int) + 1) = ((i + 1 : Nat) : Int) := by rw [wrap_i64 (by omega) (by omega)]; simp
      have hgi : (sm.map smAv)[i]? = some (smAv sm[i]) := by simp [hlt]
      have hmem := List.getElem_mem hlt
      have htk : sm.take (i + 1) = sm.take i ++ [sm[i]] := List.take_succ_eq_append_getElem hlt
      generalize sm[i] = x at hgi hmem htk
      simp -dsimp only [Vm.G, List.lookup, Nat.reduceAdd, Nat.reduceBEq, Int.reduceBNe, Int.reduceBEq, Nat.reduceLeDiff, q22]
      refine idxO_intro (by omega) (by simp; omega) ?_
      simp -dsimp only [Vm.G, List.lookup, Nat.reduceAdd, Nat.reduceBEq, Int.reduceBNe, Int.reduceBEq, Nat.reduceLeDiff, q22, Int.toNat_natCast]
      refine eltA_intro hgi ?_
      simp only [smAv, smCells]
      simp -dsimp only [Vm.G, List.lookup, Nat.reduceAdd, Nat.reduceBEq, Int.reduceBNe, Int.reduceBEq, Nat.reduceLeDiff, q22, AV.cells, List.drop_zero]
      have h0 := Bool.eq_false_or_eq_true (x.deb == x.cred)
      rcases h0 with c | c
      · have c2 : (x.deb != x.cred) = false := by simp only [bne, c, Bool.not_true]
        simp -dsimp only [Vm.G, List.lookup, Nat.reduceAdd, Nat.reduceBEq, Int.reduceBNe, Int.reduceBEq, Nat.reduceLeDiff, q22, c2]
        refine kept_intro ⟨sm.length - (i + 1), by omega, _, le_mk [(0, .ptr V.iv 0), (1, .v (.int .i64 year)), (11, .own true 91 3 (sm.map smAv)), (12, .v (.int .i64 sm.length)), (13, .v (.int .i64 (i + 1 : Nat)))] ?_, i + 1, by omega, rfl, fun t ht => ?_, rfl⟩
        · simp only [List.forall_mem_cons, List.not_mem_nil, false_imp_iff, implies_true, and_true, hw]
          try simp -dsimp only [Vm.G, List.lookup, Nat.reduceAdd, Nat.reduceBEq, Int.reduceBNe, Int.reduceBEq, Nat.reduceLeDiff, q22, hw]
          repeat' first | exact Fg.refl _ | exact Fg.nil _ _ _ (by decide) | refine And.intro ?_ ?_
        · rw [htk] at ht
          rcases List.mem_append.1 ht with ht | ht
          · exact hall t ht
          · rw [List.mem_singleton] at ht; subst ht; exact c
      · have c2 : (x.deb != x.cred) = true := by simp only [bne, c, Bool.not_false]
        have hf : sm.all (fun s => s.deb == s.cred) = false := by
          rw [List.all_eq_false]
          exact ⟨x, hmem, by rw [c]; decide⟩
        rw [hf, Bool.false_and] at hqa
        simp -dsimp only [Vm.G, List.lookup, Nat.reduceAdd, Nat.reduceBEq, Int.reduceBNe, Int.reduceBEq, Nat.reduceLeDiff, q22, c2]
        exact hqa h' hsc hV1 hs1
    · have hge : ¬ i < sm.length := by have := of_decide_eq_false hcc; omega
      rw [List.take_of_length_le (by omega)] at hall
      have ht : sm.all (fun s => s.deb == s.cred) = true := List.all_eq_true.2 hall
      rw [ht, Bool.true_and] at hqa
      clear hcc
      simp -dsimp only [Vm.G, List.lookup, Nat.reduceAdd, Nat.reduceBEq, Int.reduceBNe, Int.reduceBEq, Nat.reduceLeDiff, q22]
      refine call_one (S := dueSpec) rfl _ GaL.rfl ⟨V, f, year, rfl, hV1, hn, fun kv2 h2 hsc2 hV2 hs2 => ?_⟩
      rw [hsc2.same hsc]
      simp -dsimp only [Vm.G, List.lookup, Nat.reduceAdd, Nat.reduceBEq, Int.reduceBNe, Int.reduceBEq, Nat.reduceLeDiff, q22]
      exact hqa h2 hsc hV2 (hs1.trans hs2)
theorem smEq (x y : Sm) : ((x.fund == y.fund) && ((x.deb == y.deb) && (x.cred == y.cred))) = true ↔ x = y := by
  obtain ⟨a, b, c⟩ := x
  obtain ⟨a', b', c'⟩ := y
  simp
def eqSpecSm : Vm.Spec := fun args h Q => ∃ l l' : List Sm, l.length ≤ 9223372036854775807 ∧ args = [.sl 3 (l.map smAv), .sl 3 (l'.map smAv)] ∧ ∀ b : Bool, (b = true ↔ l = l') → Q (.v (.bool b)) h
set_option maxHeartbeats 1000000 in
theorem does_eqSm : Does Tryz.prog 49 eqSpecSm := by
  refine does_of_awp good_nil Tryz.func49 rfl (by decide +kernel) (by decide +kernel) ?_
  rintro args h Q ⟨l, l', hl, rfl, hq⟩
  refine ⟨by simp [Tryz.f49], ?_⟩
  rw [awpFunc_some (by rfl)]
  simp -dsimp only [Vm.G, List.lookup, Nat.reduceAdd, Nat.reduceBEq, Int.reduceBNe, Int.reduceBEq, Nat.reduceLeDiff, q49]
  by_cases hlen : l.length = l'.length
  · have c1 : ((l.length : Int) != l'.length) = false := by simp [hlen]
    simp -dsimp only [Vm.G, List.lookup, Nat.reduceAdd, Nat.reduceBEq, Int.reduceBNe, Int.reduceBEq, Nat.reduceLeDiff, q49, c1]
    refine awp_loop (fun m s h' => ∃ i : Nat, i + m = l.length ∧ h' = h ∧ (∀ j (hj : j < l.length), j < i → l[j] = l'[j]'(by omega)) ∧ s = mk [(0, .sl 3 (l.map smAv)), (1, .sl 3 (l'.map smAv)), (12, .v (.int .i64 l.length)), (13, .v (.int .i64 i))])
      l.length _ (le_mk _ ?_) ⟨0, by omega, rfl, fun j _ hj => by omega, rfl⟩ ?_
    · simp only [List.forall_mem_cons, List.not_mem_nil, false_imp_iff, implies_true, and_true]
      try simp -dsimp only [Vm.G, List.lookup, Nat.reduceAdd, Nat.reduceBEq, Int.reduceBNe, Int.reduceBEq, Nat.reduceLeDiff, q49]
      repeat' first | exact Fg.refl _ | exact Fg.nil _ _ _ (by decide) | refine And.intro ?_ ?_
    · rintro m s h' ⟨i, hi, rfl, hb, rfl⟩
      simp -dsimp only [Vm.G, List.lookup, Nat.reduceAdd, Nat.reduceBEq, Int.reduceBNe, Int.reduceBEq, Nat.reduceLeDiff, q49]
      refine cond_intro (fun hcc => ?_) (fun hcc => ?_)
      · have hlt : i < l.length := by have := of_decide_eq_true hcc; omega
        have hlt' : i < l'.length := by omega
        obtain ⟨x, hx⟩ : ∃ x, l[i] = x := ⟨_, rfl⟩
        obtain ⟨y, hy⟩ : ∃ y, l'[i] = y := ⟨_, rfl⟩
        have hw : IntKind.i64.wrap ((i : Int) + 1) = ((i + 1 : Nat) : Int) := by rw [wrap_i64 (by omega) (by omega)]; simp
        simp -dsimp only [Vm.G, List.lookup, Nat.reduceAdd, Nat.reduceBEq, Int.reduceBNe, Int.reduceBEq, Nat.reduceLeDiff, q49]
        refine draw_cont [] (.take 0 (.take 1 (.take 2 (.take 3 (.take 4 (.take 5 (.take 6 (.take 7 (.take 8 (.done)))))))))) (fun s hx => hx = h' ∧ (∃ b : Bool, (b = true ↔ x = y) ∧ s 24 = .v (.bool (!b))) ∧ s 0 = .sl 3 (l.map smAv) ∧ s 1 = .sl 3 (l'.map smAv) ∧ s 12 = .v (.int .i64 l.length) ∧ s 13 = .v (.int .i64 i)) (by kernel_rfl) (by kernel_rfl) (by kernel_rfl) (by decide) ?_ ?_
        · simp -dsimp only [Vm.G, List.lookup, Nat.reduceAdd, Nat.reduceBEq, Int.reduceBNe, Int.reduceBEq, Nat.reduceLeDiff, q49]
          refine idx_map smAv l i hlt ?_
          simp only [hx, smAv, smCells]
          simp -dsimp only [Vm.G, List.lookup, Nat.reduceAdd, Nat.reduceBEq, Int.reduceBNe, Int.reduceBEq, Nat.reduceLeDiff, q49, AV.cells]
          refine idx_map smAv l' i hlt' ?_
          simp only [hy, smAv, smCells]
          simp -dsimp only [Vm.G, List.lookup, Nat.reduceAdd, Nat.reduceBEq, Int.reduceBNe, Int.reduceBEq, Nat.reduceLeDiff, q49, AV.cells]
          refine eq_agg fd91 rfl ?_
          simp -dsimp only [Vm.G, List.lookup, Nat.reduceAdd, Nat.reduceBEq, Int.reduceBNe, Int.reduceBEq, Nat.reduceLeDiff, q49]
          refine ⟨⟨_, smEq x y, rfl⟩, ?_⟩
          repeat' first | rfl | exact True.intro | refine And.intro ?_ ?_
        · rintro s hx2 ⟨rfl, ⟨b, hbe, e24⟩, e0, e1, e12, e13⟩
          cases b
          · have hne : ¬ l = l' := fun e => by
              have : x = y := by subst e; rw [← hx, ← hy]
              have := hbe.2 this
              cases this
            simp -dsimp only [Vm.G, List.lookup, Nat.reduceAdd, Nat.reduceBEq, Int.reduceBNe, Int.reduceBEq, Nat.reduceLeDiff, q49, e24, e0, e1, e12, e13]
            exact hq false ⟨fun h => (by cases h), fun h => (hne h).elim⟩
          · have he := hbe.1 rfl
            simp -dsimp only [Vm.G, List.lookup, Nat.reduceAdd, Nat.reduceBEq, Int.reduceBNe, Int.reduceBEq, Nat.reduceLeDiff, q49, e24, e0, e1, e12, e13]
            refine kept_intro ⟨l.length - (i + 1), by omega, _, le_mk [(0, .sl 3 (l.map smAv)), (1, .sl 3 (l'.map smAv)), (12, .v (.int .i64 l.length)), (13, .v (.int .i64 (i + 1 : Nat)))] ?_, i + 1, by omega, rfl, fun j hj hj2 => ?_, rfl⟩
            · simp only [List.forall_mem_cons, List.not_mem_nil, false_imp_iff, implies_true, and_true, hw, e24, e0, e1, e12, e13]
              try simp -dsimp only [Vm.G, List.lookup, Nat.reduceAdd, Nat.reduceBEq, Int.reduceBNe, Int.reduceBEq, Nat.reduceLeDiff, q49, hw, e24, e0, e1, e12, e13]
              repeat' first | exact Fg.refl _ | exact Fg.nil _ _ _ (by decide) | refine And.intro ?_ ?_
            · by_cases hji : j = i
              · subst hji; rw [hx, hy]; exact he
              · exact hb j hj (by omega)
      · have hge : ¬ i < l.length := by have := of_decide_eq_false hcc; omega
        have he : l = l' := List.ext_getElem hlen fun j h1 h2 => hb j h1 (by omega)
        simp -dsimp only [Vm.G, List.lookup, Nat.reduceAdd, Nat.reduceBEq, Int.reduceBNe, Int.reduceBEq, Nat.reduceLeDiff, q49]
        exact hq true ⟨fun _ => he, fun _ => rfl⟩
  · have c1 : ((l.length : Int) != l'.length) = true := by simp; omega
    simp -dsimp only [Vm.G, List.lookup, Nat.reduceAdd, Nat.reduceBEq, Int.reduceBNe, Int.reduceBEq, Nat.reduceLeDiff, q49, c1]
    exact hq false ⟨fun h => (by cases h), fun h => (hlen (by rw [h])).elim⟩
theorem en0_ok : (⟨0, 2020, 0, 0, 0, 0⟩ : En).ok := by unfold En.ok I64; decide
theorem tA_ok : tA.ok := by unfold Ln.ok I64; decide
theorem tB_ok : tB.ok := by unfold Ln.ok I64; decide
theorem t_open : (openOf noF 2020).2 = 0 := by decide +kernel
set_option maxRecDepth 20000 in
set_option maxHeartbeats 2000000 in
theorem does_law27awake : Does Tryz.prog 18 yesSpec := by
  refine does_of_awp (good_cons does_vnewA (good_cons does_yOpen (good_cons does_entry (good_cons does_due (good_cons does_sums (good_cons does_eqSm (good_cons does_tright good_nil))))))) Tryz.func18 rfl (by decide +kernel) (by decide +kernel) ?_
  rintro args h Q ⟨rfl, hq⟩
  refine ⟨by simp [Tryz.f18], ?_⟩
  rw [awpFunc_some (by rfl)]
  simp -dsimp only [Vm.G, List.lookup, Nat.reduceAdd, Nat.reduceBEq, Int.reduceBNe, Int.reduceBEq, Nat.reduceLeDiff, q18]
  refine call_one (S := vnewASpec) rfl _ GaL.rfl ⟨rfl, fun V h1 hV => ?_⟩
  simp -dsimp only [Vm.G, List.lookup, Nat.reduceAdd, Nat.reduceBEq, Int.reduceBNe, Int.reduceBEq, Nat.reduceLeDiff, q18]
  refine nil_pointer Tryz.underlying23 ?_
  simp -dsimp only [Vm.G, List.lookup, Nat.reduceAdd, Nat.reduceBEq, Int.reduceBNe, Int.reduceBEq, Nat.reduceLeDiff, q18]
  refine call_one (S := yOpenSpec) rfl _ GaL.rfl ⟨V, noF, 2020, rfl, hV, fun h2 hV2 hs2 => ?_⟩
  simp -dsimp only [Vm.G, List.lookup, Nat.reduceAdd, Nat.reduceBEq, Int.reduceBNe, Int.reduceBEq, Nat.reduceLeDiff, q18, t_open, bne_self_eq_false]
  refine bs_intro zr53 (by decide) (by decide) rfl rfl (by simp [solid, AV.cells]) ?_
  simp -dsimp only [Vm.G, List.lookup, Nat.reduceAdd, Nat.reduceBEq, Int.reduceBNe, Int.reduceBEq, Nat.reduceLeDiff, q18]
  refine call_one (S := entrySpec) rfl _ GaL.rfl ⟨V, tF0, ⟨0, 2020, 0, 0, 0, 0⟩, [tA, tB], en0_ok, fun x hx => ?_, by decide, rfl, hV2, fun hc => absurd hc (by decide), fun _ r h3 hr hV3 hs3 => ?_⟩
  · simp only [List.mem_cons, List.not_mem_nil, or_false] at hx
    rcases hx with rfl | rfl
    · exact tA_ok
    · exact tB_ok
  · have hre := funds_same hr t_funds
    have hal : [tA, tB] ++ balanceL r = [tA, tB, tC, tD] := by rw [hre, t_bal]; rfl
    simp only [hal] at hV3 ⊢
    have hsc0 := t_scan
    have hn0 := stand_n tF0 2020 0 0 [tA, tB, tC, tD]
    have hok := t_ok
    have hfn : tF0.n ≤ 10 := by decide +kernel
    generalize standF tF0 2020 0 0 [tA, tB, tC, tD] = q at hV3 hsc0 hn0 hok ⊢
    have hqn : q.1.n ≤ 536870912 := by simp only [List.length_cons, List.length_nil] at hn0; omega
    simp -dsimp only [Vm.G, List.lookup, Nat.reduceAdd, Nat.reduceBEq, Int.reduceBNe, Int.reduceBEq, Nat.reduceLeDiff, q18, hok]
    refine call_one (S := dueSpec) rfl _ GaL.rfl ⟨V, q.1, 2020, rfl, hV3, hqn, fun l h4 hsc hV4 hs4 => ?_⟩
    have hl := hsc.same hsc0
    simp only [hl, t_all, t_from, t_to]
    simp -dsimp only [Vm.G, List.lookup, Nat.reduceAdd, Nat.reduceBEq, Int.reduceBNe, Int.reduceBEq, Nat.reduceLeDiff, q18, beq_self_eq_true]
    refine call_one (S := sumsSpec) rfl _ GaL.rfl ⟨V, q.1, 2020, rfl, hV4, hqn, fun l2 h5 hsc2 hV5 hs5 hsl => ?_⟩
    have hl2 := hsc2.same hsc0
    simp only [hl2, t_all, t_sums]
    simp -dsimp only [Vm.G, List.lookup, Nat.reduceAdd, Nat.reduceBEq, Int.reduceBNe, Int.reduceBEq, Nat.reduceLeDiff, q18]
    refine bs_intro zr91 (by decide) (by decide) rfl rfl (by simp [solid, AV.cells]) ?_
    simp -dsimp only [Vm.G, List.lookup, Nat.reduceAdd, Nat.reduceBEq, Int.reduceBNe, Int.reduceBEq, Nat.reduceLeDiff, q18]
    refine call_one (S := eqSpecSm) rfl _ GaL.rfl ⟨[⟨100, 5, 5⟩, ⟨200, 5, 5⟩], [⟨100, 5, 5⟩, ⟨200, 5, 5⟩], by simp, rfl, fun b hb => ?_⟩
    have hb1 : b = true := hb.2 rfl
    subst hb1
    simp -dsimp only [Vm.G, List.lookup, Nat.reduceAdd, Nat.reduceBEq, Int.reduceBNe, Int.reduceBEq, Nat.reduceLeDiff, q18, beq_self_eq_true]
    refine call_one (S := trightSpec) rfl _ GaL.rfl ⟨V, q.1, 2020, rfl, hV5, hqn, fun l3 h6 hsc3 hV6 hs6 => ?_⟩
    have hl3 := hsc3.same hsc0
    simp only [hl3, t_all, t_right]
    simp -dsimp only [Vm.G, List.lookup, Nat.reduceAdd, Nat.reduceBEq, Int.reduceBNe, Int.reduceBEq, Nat.reduceLeDiff, q18]
    exact hq _
end Go.Proofs.Lx
/- The law TrialRight. -/
set_option linter.unusedSimpArgs false
set_option linter.unusedVariables false
namespace Go.Proofs.Lx
open Go.Vm
attribute [local irreducible] awpArr awpBin awpMake awpAppend awpCvX awpStrOf awpBinX awpSlice awpBS awpStore awpAlloc awpCopy awpIndex awpDraw awpIdxX awpFa awpField awpLookup awpUpdate awpDelete awpClear awpRange awpNext awpEntry awpBuild awpClearS awpIdxL awpTree appB awpIdxO eltA treeA
def smallL (x : Ln) : Bool := decide (x.amt ≤ 9007199254740992) && decide (x.amt ≥ -9007199254740992) && (x.obj != 1900) && (x.obj != 2900)
def trlSpec : Vm.Spec := fun args h Q => ∃ l : List (List Ln), l.length ≤ 9223372036854775807 ∧ (∀ k ∈ l, k.length ≤ 9223372036854775807 ∧ ∀ x ∈ k, x.ok) ∧ args = [.sl 1 (l.map lnsAv)] ∧ ∀ h', Q (.v (.bool true)) h'
set_option maxRecDepth 20000 in
set_option maxHeartbeats 8000000 in
theorem does_trl : Does Tryz.prog 5 trlSpec := by
  refine does_of_awp (good_cons does_law27awake (good_cons does_vnewW (good_cons does_yOpen (good_cons does_cloneLn (good_cons does_commit (good_cons does_entry (good_cons does_abort (good_cons does_tright good_nil)))))))) Tryz.func5 rfl (by decide +kernel) (by decide +kernel) ?_
  rintro args h Q ⟨l, hl, hlk, rfl, hq⟩
  refine ⟨by simp [Tryz.f5], ?_⟩
  rw [awpFunc_some (by rfl)]
  simp -dsimp only [Vm.G, List.lookup, Nat.reduceAdd, Nat.reduceBEq, Int.reduceBNe, Int.reduceBEq, Nat.reduceLeDiff, q5]
  have h0 := Bool.eq_false_or_eq_true (decide ((l.length : Int) > 20))
  rcases h0 with c | c
  · simp -dsimp only [Vm.G, List.lookup, Nat.reduceAdd, Nat.reduceBEq, Int.reduceBNe, Int.reduceBEq, Nat.reduceLeDiff, q5, c]
    refine call_one (S := yesSpec) rfl _ GaL.rfl ⟨rfl, fun hz => ?_⟩
    simp -dsimp only [Vm.G, List.lookup, Nat.reduceAdd, Nat.reduceBEq, Int.reduceBNe, Int.reduceBEq, Nat.reduceLeDiff, q5]
    exact hq _
  · have d0 := of_decide_eq_false c
    simp -dsimp only [Vm.G, List.lookup, Nat.reduceAdd, Nat.reduceBEq, Int.reduceBNe, Int.reduceBEq, Nat.reduceLeDiff, q5, c]
    refine call_one (S := vnewWSpec) rfl _ GaL.rfl ⟨rfl, fun V h1 hV1 hm1 => ?_⟩
    simp -dsimp only [Vm.G, List.lookup, Nat.reduceAdd, Nat.reduceBEq, Int.reduceBNe, Int.reduceBEq, Nat.reduceLeDiff, q5]
    refine call_one (S := yOpenSpec) rfl _ GaL.rfl ⟨V, noF, 2020, rfl, hV1, fun h2 hV2 hs2 => ?_⟩
    have hm2 := hm1.same hs2 (by have := hV1.ne.2.2; simp [Ne.symm this])
    have hfn : tF0.n ≤ 10 := by decide +kernel
    have hV2 : isView h2 V tF0 := hV2
    have hS0 := t_stands0
    have heok := en0_ok
    have hn0 : noF.n = 0 := rfl
    simp -dsimp only [Vm.G, List.lookup, Nat.reduceAdd, Nat.reduceBEq, Int.reduceBNe, Int.reduceBEq, Nat.reduceLeDiff, q5, t_open, bne_self_eq_false]
    refine awp_loop (fun m s h' => ∃ (i : Nat) (f g : Fun) (T : List Ln), i + m = l.length ∧ isView h' V f ∧ memV h' V g ∧ Stands 2020 T f ∧ EvenT T ∧ f.n ≤ 10 + 100 * i ∧ g.n ≤ 10 + 100 * i ∧ s = mk [(3, .ptr V.iv 0), (19, .sl 1 (l.map lnsAv)), (20, .v (.int .i64 l.length)), (21, .v (.int .i64 (i : Nat)))])
      l.length _ (le_mk _ ?_) ⟨0, tF0, noF, [], by omega, hV2, hm2, hS0, even_nil, by omega, by omega, rfl⟩ ?_
    · simp only [List.forall_mem_cons, List.not_mem_nil, false_imp_iff, implies_true, and_true]
      try simp -dsimp only [Vm.G, List.lookup, Nat.reduceAdd, Nat.reduceBEq, Int.reduceBNe, Int.reduceBEq, Nat.reduceLeDiff, q5]
      repeat' first | exact Fg.refl _ | exact Fg.nil _ _ _ (by decide) | refine And.intro ?_ ?_
    · clear hV2 hm2 hS0 hfn hV1 hm1 hs2 hn0
      rintro m s h' ⟨i, f, g, T, hi, hV, hm, hS, hE, hfn, hgn, rfl⟩
      simp -dsimp only [Vm.G, List.lookup, Nat.reduceAdd, Nat.reduceBEq, Int.reduceBNe, Int.reduceBEq, Nat.reduceLeDiff, q5]
      refine cond_intro (fun hcc => ?_) (fun hcc => ?_)
      · have hlt : i < l.length := by have := of_decide_eq_true hcc; omega
        have hw : IntKind.i64.wrap ((i : Int) + 1) = ((i + 1 : Nat) : Int) := by rw [wrap_i64 (by omega) (by omega)]; simp
        have hkk := hlk l[i] (List.getElem_mem hlt)
        have hxe : ∃ k, l[i] = k := ⟨_, rfl⟩
        rcases hxe with ⟨k, hkx⟩
        rw [hkx] at hkk
        rcases hkk with ⟨hkl, hko⟩
        clear hcc
        simp -dsimp only [Vm.G, List.lookup, Nat.reduceAdd, Nat.reduceBEq, Int.reduceBNe, Int.reduceBEq, Nat.reduceLeDiff, q5]
        refine idx_map lnsAv l i hlt ?_
        simp only [hkx, lnsAv]
        simp -dsimp only [Vm.G, List.lookup, Nat.reduceAdd, Nat.reduceBEq, Int.reduceBNe, Int.reduceBEq, Nat.reduceLeDiff, q5, AV.cells]
        refine awp_loop (fun m s h2 => ∃ (j : Nat) (n : Int) (b : Bool), j + m = k.length ∧ h2 = h' ∧ (b = true → k.length ≤ 20 ∧ (∀ x ∈ k.take j, smallL x = true) ∧ n = tot (fun x => x.amt) (k.take j)) ∧ s = mk [(3, .ptr V.iv 0), (5, .sl 4 (k.map lnAv)), (6, .v (.int .i64 n)), (7, .v (.bool b)), (8, .v (.int .i64 (j : Nat))), (19, .sl 1 (l.map lnsAv)), (20, .v (.int .i64 l.length)), (21, .v (.int .i64 i))])
          k.length _ (le_mk _ ?_) ⟨0, 0, decide ((k.length : Int) ≤ 20), by omega, rfl, fun hb => ⟨by have := of_decide_eq_true hb; omega, by simp, rfl⟩, rfl⟩ ?_
        · simp only [List.forall_mem_cons, List.not_mem_nil, false_imp_iff, implies_true, and_true, lnsAv]
          try simp -dsimp only [Vm.G, List.lookup, Nat.reduceAdd, Nat.reduceBEq, Int.reduceBNe, Int.reduceBEq, Nat.reduceLeDiff, q5, lnsAv]
          repeat' first | exact Fg.refl _ | exact Fg.nil _ _ _ (by decide) | refine And.intro ?_ ?_
        · rintro m2 s h2 ⟨j, n, b, hj, rfl, hb, rfl⟩
          cases b
          · simp -dsimp only [Vm.G, List.lookup, Nat.reduceAdd, Nat.reduceBEq, Int.reduceBNe, Int.reduceBEq, Nat.reduceLeDiff, q5, Bool.not_false]
            refine kept_intro ⟨l.length - (i + 1), by omega, _, le_mk [(3, .ptr V.iv 0), (19, .sl 1 (l.map lnsAv)), (20, .v (.int .i64 l.length)), (21, .v (.int .i64 (i + 1 : Nat)))] ?_, i + 1, f, g, T, by omega, hV, hm, hS, hE, by omega, by omega, rfl⟩
            simp only [List.forall_mem_cons, List.not_mem_nil, false_imp_iff, implies_true, and_true, hw, lnsAv]
            try simp -dsimp only [Vm.G, List.lookup, Nat.reduceAdd, Nat.reduceBEq, Int.reduceBNe, Int.reduceBEq, Nat.reduceLeDiff, q5, hw, lnsAv]
            repeat' first | exact Fg.refl _ | exact Fg.nil _ _ _ (by decide) | refine And.intro ?_ ?_
          · have hb := hb rfl
            rcases hb with ⟨hk20, hsm, hn⟩
            have h0 := Bool.eq_false_or_eq_true (decide ((j : Int) < k.length))
            rcases h0 with c1 | c1
            · have hjl : j < k.length := by have := of_decide_eq_true c1; omega
              have hwj : IntKind.i64.wrap ((j : Int) + 1) = ((j + 1 : Nat) : Int) := by rw [wrap_i64 (by omega) (by omega)]; simp
              have hxe : ∃ x, k[j] = x := ⟨_, rfl⟩
              rcases hxe with ⟨x, hx⟩
              have htk : k.take (j + 1) = k.take j ++ [x] := by rw [List.take_succ_eq_append_getElem hjl, hx]
              have hbd := tot_bound (g := fun x : Ln => x.amt) (B := 9007199254740992) (l := k.take j) fun x hx => by
                have := hsm x hx
                unfold smallL at this
                simp only [Bool.and_eq_true, decide_eq_true_eq] at this
                omega
              rw [← hn, List.length_take, Nat.min_eq_left (by omega)] at hbd
              have h0 := Bool.eq_false_or_eq_true (decide (x.amt ≤ 9007199254740992))
              rcases h0 with q1 | q1
              · have h0 := Bool.eq_false_or_eq_true (decide (x.amt ≥ -9007199254740992))
                rcases h0 with q2 | q2
                · have h0 := Bool.eq_false_or_eq_true (x.obj != 1900)
                  rcases h0 with q3 | q3
                  · have h0 := Bool.eq_false_or_eq_true (x.obj != 2900)
                    rcases h0 with q4 | q4
                    · simp -dsimp only [Vm.G, List.lookup, Nat.reduceAdd, Nat.reduceBEq, Int.reduceBNe, Int.reduceBEq, Nat.reduceLeDiff, q5, c1]
                      refine idx_map lnAv k j hjl ?_
                      simp only [hx, lnAv, lnCells]
                      simp -dsimp only [Vm.G, List.lookup, Nat.reduceAdd, Nat.reduceBEq, Int.reduceBNe, Int.reduceBEq, Nat.reduceLeDiff, q5, AV.cells, List.drop_zero, q1]
                      refine idx_map lnAv k j hjl ?_
                      simp only [hx, lnAv, lnCells]
                      simp -dsimp only [Vm.G, List.lookup, Nat.reduceAdd, Nat.reduceBEq, Int.reduceBNe, Int.reduceBEq, Nat.reduceLeDiff, q5, AV.cells, List.drop_zero, q2]
                      refine idx_map lnAv k j hjl ?_
                      simp only [hx, lnAv, lnCells]
                      simp -dsimp only [Vm.G, List.lookup, Nat.reduceAdd, Nat.reduceBEq, Int.reduceBNe, Int.reduceBEq, Nat.reduceLeDiff, q5, AV.cells, List.drop_zero, q3]
                      refine idx_map lnAv k j hjl ?_
                      simp only [hx, lnAv, lnCells]
                      simp -dsimp only [Vm.G, List.lookup, Nat.reduceAdd, Nat.reduceBEq, Int.reduceBNe, Int.reduceBEq, Nat.reduceLeDiff, q5, AV.cells, List.drop_zero, q4]
                      refine idx_map lnAv k j hjl ?_
                      simp only [hx, lnAv, lnCells]
                      simp -dsimp only [Vm.G, List.lookup, Nat.reduceAdd, Nat.reduceBEq, Int.reduceBNe, Int.reduceBEq, Nat.reduceLeDiff, q5, AV.cells, List.drop_zero, q4]
                      refine kept_intro ⟨k.length - (j + 1), by omega, _, le_mk [(3, .ptr V.iv 0), (5, .sl 4 (k.map lnAv)), (6, .v (.int .i64 (w64 (n + x.amt)))), (7, .v (.bool true)), (8, .v (.int .i64 (j + 1 : Nat))), (19, .sl 1 (l.map lnsAv)), (20, .v (.int .i64 l.length)), (21, .v (.int .i64 i))] ?_, j + 1, w64 (n + x.amt), true, by omega, rfl, fun hbt => ?_, rfl⟩
                      · simp only [List.forall_mem_cons, List.not_mem_nil, false_imp_iff, implies_true, and_true, hwj, q4]
                        try simp -dsimp only [Vm.G, List.lookup, Nat.reduceAdd, Nat.reduceBEq, Int.reduceBNe, Int.reduceBEq, Nat.reduceLeDiff, q5, hwj, q4]
                        repeat' first | exact Fg.refl _ | exact Fg.nil _ _ _ (by decide) | refine And.intro ?_ ?_
                      have b1 := of_decide_eq_true q1
                      have b2 := of_decide_eq_true q2
                      refine ⟨hk20, fun y hy => ?_, ?_⟩
                      · rw [htk] at hy
                        rcases List.mem_append.1 hy with hy | hy
                        · exact hsm y hy
                        · rw [List.mem_singleton] at hy; subst hy
                          unfold smallL
                          rw [q1, q2, q3, q4]; rfl
                      · rw [htk, tot_append, ← hn]
                        show w64 (n + x.amt) = n + (x.amt + 0)
                        have : w64 (n + x.amt) = n + x.amt := wrap_i64 (by omega) (by omega)
                        omega
                    · simp -dsimp only [Vm.G, List.lookup, Nat.reduceAdd, Nat.reduceBEq, Int.reduceBNe, Int.reduceBEq, Nat.reduceLeDiff, q5, c1]
                      refine idx_map lnAv k j hjl ?_
                      simp only [hx, lnAv, lnCells]
                      simp -dsimp only [Vm.G, List.lookup, Nat.reduceAdd, Nat.reduceBEq, Int.reduceBNe, Int.reduceBEq, Nat.reduceLeDiff, q5, AV.cells, List.drop_zero, q1]
                      refine idx_map lnAv k j hjl ?_
                      simp only [hx, lnAv, lnCells]
                      simp -dsimp only [Vm.G, List.lookup, Nat.reduceAdd, Nat.reduceBEq, Int.reduceBNe, Int.reduceBEq, Nat.reduceLeDiff, q5, AV.cells, List.drop_zero, q2]
                      refine idx_map lnAv k j hjl ?_
                      simp only [hx, lnAv, lnCells]
                      simp -dsimp only [Vm.G, List.lookup, Nat.reduceAdd, Nat.reduceBEq, Int.reduceBNe, Int.reduceBEq, Nat.reduceLeDiff, q5, AV.cells, List.drop_zero, q3]
                      refine idx_map lnAv k j hjl ?_
                      simp only [hx, lnAv, lnCells]
                      simp -dsimp only [Vm.G, List.lookup, Nat.reduceAdd, Nat.reduceBEq, Int.reduceBNe, Int.reduceBEq, Nat.reduceLeDiff, q5, AV.cells, List.drop_zero, q4]
                      refine idx_map lnAv k j hjl ?_
                      simp only [hx, lnAv, lnCells]
                      simp -dsimp only [Vm.G, List.lookup, Nat.reduceAdd, Nat.reduceBEq, Int.reduceBNe, Int.reduceBEq, Nat.reduceLeDiff, q5, AV.cells, List.drop_zero, q4]
                      refine kept_intro ⟨k.length - (j + 1), by omega, _, le_mk [(3, .ptr V.iv 0), (5, .sl 4 (k.map lnAv)), (6, .v (.int .i64 (w64 (n + x.amt)))), (7, .v (.bool false)), (8, .v (.int .i64 (j + 1 : Nat))), (19, .sl 1 (l.map lnsAv)), (20, .v (.int .i64 l.length)), (21, .v (.int .i64 i))] ?_, j + 1, w64 (n + x.amt), false, by omega, rfl, fun hbt => ?_, rfl⟩
                      · simp only [List.forall_mem_cons, List.not_mem_nil, false_imp_iff, implies_true, and_true, hwj, q4]
                        try simp -dsimp only [Vm.G, List.lookup, Nat.reduceAdd, Nat.reduceBEq, Int.reduceBNe, Int.reduceBEq, Nat.reduceLeDiff, q5, hwj, q4]
                        repeat' first | exact Fg.refl _ | exact Fg.nil _ _ _ (by decide) | refine And.intro ?_ ?_
                      cases hbt
                  · simp -dsimp only [Vm.G, List.lookup, Nat.reduceAdd, Nat.reduceBEq, Int.reduceBNe, Int.reduceBEq, Nat.reduceLeDiff, q5, c1]
                    refine idx_map lnAv k j hjl ?_
                    simp only [hx, lnAv, lnCells]
                    simp -dsimp only [Vm.G, List.lookup, Nat.reduceAdd, Nat.reduceBEq, Int.reduceBNe, Int.reduceBEq, Nat.reduceLeDiff, q5, AV.cells, List.drop_zero, q1]
                    refine idx_map lnAv k j hjl ?_
                    simp only [hx, lnAv, lnCells]
                    simp -dsimp only [Vm.G, List.lookup, Nat.reduceAdd, Nat.reduceBEq, Int.reduceBNe, Int.reduceBEq, Nat.reduceLeDiff, q5, AV.cells, List.drop_zero, q2]
                    refine idx_map lnAv k j hjl ?_
                    simp only [hx, lnAv, lnCells]
                    simp -dsimp only [Vm.G, List.lookup, Nat.reduceAdd, Nat.reduceBEq, Int.reduceBNe, Int.reduceBEq, Nat.reduceLeDiff, q5, AV.cells, List.drop_zero, q3]
                    refine idx_map lnAv k j hjl ?_
                    simp only [hx, lnAv, lnCells]
                    simp -dsimp only [Vm.G, List.lookup, Nat.reduceAdd, Nat.reduceBEq, Int.reduceBNe, Int.reduceBEq, Nat.reduceLeDiff, q5, AV.cells, List.drop_zero, q3]
                    refine kept_intro ⟨k.length - (j + 1), by omega, _, le_mk [(3, .ptr V.iv 0), (5, .sl 4 (k.map lnAv)), (6, .v (.int .i64 (w64 (n + x.amt)))), (7, .v (.bool false)), (8, .v (.int .i64 (j + 1 : Nat))), (19, .sl 1 (l.map lnsAv)), (20, .v (.int .i64 l.length)), (21, .v (.int .i64 i))] ?_, j + 1, w64 (n + x.amt), false, by omega, rfl, fun hbt => ?_, rfl⟩
                    · simp only [List.forall_mem_cons, List.not_mem_nil, false_imp_iff, implies_true, and_true, hwj, q3]
                      try simp -dsimp only [Vm.G, List.lookup, Nat.reduceAdd, Nat.reduceBEq, Int.reduceBNe, Int.reduceBEq, Nat.reduceLeDiff, q5, hwj, q3]
                      repeat' first | exact Fg.refl _ | exact Fg.nil _ _ _ (by decide) | refine And.intro ?_ ?_
                    cases hbt
                · simp -dsimp only [Vm.G, List.lookup, Nat.reduceAdd, Nat.reduceBEq, Int.reduceBNe, Int.reduceBEq, Nat.reduceLeDiff, q5, c1]
                  refine idx_map lnAv k j hjl ?_
                  simp only [hx, lnAv, lnCells]
                  simp -dsimp only [Vm.G, List.lookup, Nat.reduceAdd, Nat.reduceBEq, Int.reduceBNe, Int.reduceBEq, Nat.reduceLeDiff, q5, AV.cells, List.drop_zero, q1]
                  refine idx_map lnAv k j hjl ?_
                  simp only [hx, lnAv, lnCells]
                  simp -dsimp only [Vm.G, List.lookup, Nat.reduceAdd, Nat.reduceBEq, Int.reduceBNe, Int.reduceBEq, Nat.reduceLeDiff, q5, AV.cells, List.drop_zero, q2]
                  refine idx_map lnAv k j hjl ?_
                  simp only [hx, lnAv, lnCells]
                  simp -dsimp only [Vm.G, List.lookup, Nat.reduceAdd, Nat.reduceBEq, Int.reduceBNe, Int.reduceBEq, Nat.reduceLeDiff, q5, AV.cells, List.drop_zero, q2]
                  refine kept_intro ⟨k.length - (j + 1), by omega, _, le_mk [(3, .ptr V.iv 0), (5, .sl 4 (k.map lnAv)), (6, .v (.int .i64 (w64 (n + x.amt)))), (7, .v (.bool false)), (8, .v (.int .i64 (j + 1 : Nat))), (19, .sl 1 (l.map lnsAv)), (20, .v (.int .i64 l.length)), (21, .v (.int .i64 i))] ?_, j + 1, w64 (n + x.amt), false, by omega, rfl, fun hbt => ?_, rfl⟩
                  · simp only [List.forall_mem_cons, List.not_mem_nil, false_imp_iff, implies_true, and_true, hwj, q2]
                    try simp -dsimp only [Vm.G, List.lookup, Nat.reduceAdd, Nat.reduceBEq, Int.reduceBNe, Int.reduceBEq, Nat.reduceLeDiff, q5, hwj, q2]
                    repeat' first | exact Fg.refl _ | exact Fg.nil _ _ _ (by decide) | refine And.intro ?_ ?_
                  cases hbt
              · simp -dsimp only [Vm.G, List.lookup, Nat.reduceAdd, Nat.reduceBEq, Int.reduceBNe, Int.reduceBEq, Nat.reduceLeDiff, q5, c1]
                refine idx_map lnAv k j hjl ?_
                simp only [hx, lnAv, lnCells]
                simp -dsimp only [Vm.G, List.lookup, Nat.reduceAdd, Nat.reduceBEq, Int.reduceBNe, Int.reduceBEq, Nat.reduceLeDiff, q5, AV.cells, List.drop_zero, q1]
                refine idx_map lnAv k j hjl ?_
                simp only [hx, lnAv, lnCells]
                simp -dsimp only [Vm.G, List.lookup, Nat.reduceAdd, Nat.reduceBEq, Int.reduceBNe, Int.reduceBEq, Nat.reduceLeDiff, q5, AV.cells, List.drop_zero, q1]
                refine kept_intro ⟨k.length - (j + 1), by omega, _, le_mk [(3, .ptr V.iv 0), (5, .sl 4 (k.map lnAv)), (6, .v (.int .i64 (w64 (n + x.amt)))), (7, .v (.bool false)), (8, .v (.int .i64 (j + 1 : Nat))), (19, .sl 1 (l.map lnsAv)), (20, .v (.int .i64 l.length)), (21, .v (.int .i64 i))] ?_, j + 1, w64 (n + x.amt), false, by omega, rfl, fun hbt => ?_, rfl⟩
                · simp only [List.forall_mem_cons, List.not_mem_nil, false_imp_iff, implies_true, and_true, hwj, q1]
                  try simp -dsimp only [Vm.G, List.lookup, Nat.reduceAdd, Nat.reduceBEq, Int.reduceBNe, Int.reduceBEq, Nat.reduceLeDiff, q5, hwj, q1]
                  repeat' first | exact Fg.refl _ | exact Fg.nil _ _ _ (by decide) | refine And.intro ?_ ?_
                cases hbt
            · have hjk : j = k.length := by have := of_decide_eq_false c1; omega
              rw [hjk, List.take_of_length_le (Nat.le_refl _)] at hsm hn
              have hkb : ∀ x ∈ k, (-9007199254740992 ≤ x.amt ∧ x.amt ≤ 9007199254740992) ∧ x.obj ≠ 1900 ∧ x.obj ≠ 2900 := fun x hx => by
                have := hsm x hx
                unfold smallL at this
                simp only [Bool.and_eq_true, decide_eq_true_eq, bne_iff_ne] at this
                omega
              have hbd := tot_bound (g := fun x : Ln => x.amt) (B := 9007199254740992) (l := k) fun x hx => (hkb x hx).1
              rw [← hn] at hbd
              have hneg : IntKind.i64.wrap (-n) = -n := wrap_i64 (by omega) (by omega)
              have hneg2 : IntKind.i64.wrap (0 - n) = -n := by rw [wrap_i64 (by omega) (by omega)]; omega
              have hKe : ∃ K, K = k ++ [⟨100, 3000, 0, -n⟩] := ⟨_, rfl⟩
              rcases hKe with ⟨K, hK⟩
              have hKl : K.length = k.length + 1 := by rw [hK]; simp
              have hKok : ∀ x ∈ K, x.ok := fun x hx => by
                rw [hK] at hx
                rcases List.mem_append.1 hx with hx | hx
                · exact hko x hx
                · rw [List.mem_singleton] at hx; subst hx
                  exact ⟨show I64 100 by unfold I64; omega, show I64 3000 by unfold I64; omega, show I64 0 by unfold I64; omega, show I64 (-n) by unfold I64; omega⟩
              have hKeven : ∀ r, IsFunds K r → EvenT (K ++ balanceL r) := fun r hr => by
                rw [hK] at hr ⊢
                exact small_even hk20 hkb hn hr
              have hfin : k.map lnAv ++ [AV.agg [.v (.int .i64 100), .v (.int .i64 3000), .v (.int .i64 0), .v (.int .i64 (-n))]] = K.map lnAv := by rw [hK]; simp [lnAv, lnCells]
              clear hkb hbd hsm
              simp -dsimp only [Vm.G, List.lookup, Nat.reduceAdd, Nat.reduceBEq, Int.reduceBNe, Int.reduceBEq, Nat.reduceLeDiff, q5, c1, Bool.not_true]
              refine call_one (S := cloneLnSpec) rfl _ GaL.rfl ⟨k, by omega, rfl, fun v hv => ?_⟩
              rcases hv with rfl | ⟨hk0, rfl⟩
              · simp -dsimp only [Vm.G, List.lookup, Nat.reduceAdd, Nat.reduceBEq, Int.reduceBNe, Int.reduceBEq, Nat.reduceLeDiff, q5, hneg, hneg2]
                refine bs_intro zr53 (by decide) (by decide) rfl rfl (by simp [solid, AV.cells]) ?_
                simp -dsimp only [Vm.G, List.lookup, Nat.reduceAdd, Nat.reduceBEq, Int.reduceBNe, Int.reduceBEq, Nat.reduceLeDiff, q5]
                refine app_sl Tryz.underlying51 (by simp [AV.cells]) (by simp only [List.length_map, List.length_cons, List.length_nil]; omega) ?_
                simp -dsimp only [Vm.G, List.lookup, Nat.reduceAdd, Nat.reduceBEq, Int.reduceBNe, Int.reduceBEq, Nat.reduceLeDiff, q5, hfin]
                refine call_one (S := commitSpec) rfl _ GaL.rfl ⟨V, f, rfl, hV, by omega, fun h2 hV2 hm2 hs2 => ?_⟩
                simp -dsimp only [Vm.G, List.lookup, Nat.reduceAdd, Nat.reduceBEq, Int.reduceBNe, Int.reduceBEq, Nat.reduceLeDiff, q5]
                refine call_one (S := entrySpec) rfl _ GaL.rfl ⟨V, f, ⟨0, 2020, 0, 0, 0, 0⟩, K, heok, hKok, by omega, rfl, hV2, fun hc => ?_, fun hc r h3 hr hV3 hs3 => ?_⟩
                · simp -dsimp only [Vm.G, List.lookup, Nat.reduceAdd, Nat.reduceBEq, Int.reduceBNe, Int.reduceBEq, Nat.reduceLeDiff, q5]
                  refine call_one (S := abortSpec) rfl _ GaL.rfl ⟨V, f, f, rfl, hV2, hm2, fun h4 hV4 hm4 hs4 => ?_⟩
                  simp -dsimp only [Vm.G, List.lookup, Nat.reduceAdd, Nat.reduceBEq, Int.reduceBNe, Int.reduceBEq, Nat.reduceLeDiff, q5]
                  refine kept_intro ⟨l.length - (i + 1), by omega, _, le_mk [(3, .ptr V.iv 0), (19, .sl 1 (l.map lnsAv)), (20, .v (.int .i64 l.length)), (21, .v (.int .i64 (i + 1 : Nat)))] ?_, i + 1, f, f, T, by omega, hV4, hm4, hS, hE, by omega, by omega, rfl⟩
                  simp only [List.forall_mem_cons, List.not_mem_nil, false_imp_iff, implies_true, and_true, hw]
                  try simp -dsimp only [Vm.G, List.lookup, Nat.reduceAdd, Nat.reduceBEq, Int.reduceBNe, Int.reduceBEq, Nat.reduceLeDiff, q5, hw]
                  repeat' first | exact Fg.refl _ | exact Fg.nil _ _ _ (by decide) | refine And.intro ?_ ?_
                · have hbl := balance_len r
                  have hrl := hr.len
                  have hqn := stand_n f 2020 0 0 (K ++ balanceL r)
                  rw [List.length_append] at hqn
                  have hst : (standF f 2020 0 0 (K ++ balanceL r)).2.2 = 0 → Stands 2020 (T ++ (K ++ balanceL r)) (standF f 2020 0 0 (K ++ balanceL r)).1 := fun hz => by
                    have he : entryF f 2020 0 0 K (K ++ balanceL r) = standF f 2020 0 0 (K ++ balanceL r) := by unfold entryF; rw [if_neg hc]
                    have := entry_stands (f := f) (y := 2020) (kind := 0) (of := 0) (l := K) (all := K ++ balanceL r) hS (by rw [he]; exact hz)
                    rw [he] at this; exact this
                  have hev := hKeven r hr
                  have hm3 := hm2.same hs3 (by have := hV2.ne.2.2; simp [Ne.symm this])
                  generalize K ++ balanceL r = A at hV3 hqn hst hev ⊢
                  generalize standF f 2020 0 0 A = q at hV3 hqn hst ⊢
                  rcases q with ⟨q0, qi, qe⟩
                  simp only at hV3 hqn hst ⊢
                  have h0 := Bool.eq_false_or_eq_true (qe != 0)
                  rcases h0 with ce | ce
                  · simp -dsimp only [Vm.G, List.lookup, Nat.reduceAdd, Nat.reduceBEq, Int.reduceBNe, Int.reduceBEq, Nat.reduceLeDiff, q5, ce]
                    refine call_one (S := abortSpec) rfl _ GaL.rfl ⟨V, q0, f, rfl, hV3, hm3, fun h4 hV4 hm4 hs4 => ?_⟩
                    simp -dsimp only [Vm.G, List.lookup, Nat.reduceAdd, Nat.reduceBEq, Int.reduceBNe, Int.reduceBEq, Nat.reduceLeDiff, q5]
                    refine kept_intro ⟨l.length - (i + 1), by omega, _, le_mk [(3, .ptr V.iv 0), (19, .sl 1 (l.map lnsAv)), (20, .v (.int .i64 l.length)), (21, .v (.int .i64 (i + 1 : Nat)))] ?_, i + 1, f, f, T, by omega, hV4, hm4, hS, hE, by omega, by omega, rfl⟩
                    simp only [List.forall_mem_cons, List.not_mem_nil, false_imp_iff, implies_true, and_true, hw]
                    try simp -dsimp only [Vm.G, List.lookup, Nat.reduceAdd, Nat.reduceBEq, Int.reduceBNe, Int.reduceBEq, Nat.reduceLeDiff, q5, hw]
                    repeat' first | exact Fg.refl _ | exact Fg.nil _ _ _ (by decide) | refine And.intro ?_ ?_
                  · have hz : qe = 0 := by simpa using ce
                    simp -dsimp only [Vm.G, List.lookup, Nat.reduceAdd, Nat.reduceBEq, Int.reduceBNe, Int.reduceBEq, Nat.reduceLeDiff, q5, ce]
                    refine kept_intro ⟨l.length - (i + 1), by omega, _, le_mk [(3, .ptr V.iv 0), (19, .sl 1 (l.map lnsAv)), (20, .v (.int .i64 l.length)), (21, .v (.int .i64 (i + 1 : Nat)))] ?_, i + 1, q0, f, T ++ A, by omega, hV3, hm3, hst hz, hE.append hev, by omega, by omega, rfl⟩
                    simp only [List.forall_mem_cons, List.not_mem_nil, false_imp_iff, implies_true, and_true, hw]
                    try simp -dsimp only [Vm.G, List.lookup, Nat.reduceAdd, Nat.reduceBEq, Int.reduceBNe, Int.reduceBEq, Nat.reduceLeDiff, q5, hw]
                    repeat' first | exact Fg.refl _ | exact Fg.nil _ _ _ (by decide) | refine And.intro ?_ ?_
              · rw [hk0] at hfin
                simp only [List.map_nil, List.nil_append] at hfin
                simp -dsimp only [Vm.G, List.lookup, Nat.reduceAdd, Nat.reduceBEq, Int.reduceBNe, Int.reduceBEq, Nat.reduceLeDiff, q5, hneg, hneg2]
                refine bs_intro zr53 (by decide) (by decide) rfl rfl (by simp [solid, AV.cells]) ?_
                simp -dsimp only [Vm.G, List.lookup, Nat.reduceAdd, Nat.reduceBEq, Int.reduceBNe, Int.reduceBEq, Nat.reduceLeDiff, q5]
                refine app_sl Tryz.underlying51 (by simp [AV.cells]) (by simp only [List.length_nil, List.length_cons]; omega) ?_
                simp -dsimp only [Vm.G, List.lookup, Nat.reduceAdd, Nat.reduceBEq, Int.reduceBNe, Int.reduceBEq, Nat.reduceLeDiff, q5, hfin]
                refine call_one (S := commitSpec) rfl _ GaL.rfl ⟨V, f, rfl, hV, by omega, fun h2 hV2 hm2 hs2 => ?_⟩
                simp -dsimp only [Vm.G, List.lookup, Nat.reduceAdd, Nat.reduceBEq, Int.reduceBNe, Int.reduceBEq, Nat.reduceLeDiff, q5]
                refine call_one (S := entrySpec) rfl _ GaL.rfl ⟨V, f, ⟨0, 2020, 0, 0, 0, 0⟩, K, heok, hKok, by omega, rfl, hV2, fun hc => ?_, fun hc r h3 hr hV3 hs3 => ?_⟩
                · simp -dsimp only [Vm.G, List.lookup, Nat.reduceAdd, Nat.reduceBEq, Int.reduceBNe, Int.reduceBEq, Nat.reduceLeDiff, q5]
                  refine call_one (S := abortSpec) rfl _ GaL.rfl ⟨V, f, f, rfl, hV2, hm2, fun h4 hV4 hm4 hs4 => ?_⟩
                  simp -dsimp only [Vm.G, List.lookup, Nat.reduceAdd, Nat.reduceBEq, Int.reduceBNe, Int.reduceBEq, Nat.reduceLeDiff, q5]
                  refine kept_intro ⟨l.length - (i + 1), by omega, _, le_mk [(3, .ptr V.iv 0), (19, .sl 1 (l.map lnsAv)), (20, .v (.int .i64 l.length)), (21, .v (.int .i64 (i + 1 : Nat)))] ?_, i + 1, f, f, T, by omega, hV4, hm4, hS, hE, by omega, by omega, rfl⟩
                  simp only [List.forall_mem_cons, List.not_mem_nil, false_imp_iff, implies_true, and_true, hw]
                  try simp -dsimp only [Vm.G, List.lookup, Nat.reduceAdd, Nat.reduceBEq, Int.reduceBNe, Int.reduceBEq, Nat.reduceLeDiff, q5, hw]
                  repeat' first | exact Fg.refl _ | exact Fg.nil _ _ _ (by decide) | refine And.intro ?_ ?_
                · have hbl := balance_len r
                  have hrl := hr.len
                  have hqn := stand_n f 2020 0 0 (K ++ balanceL r)
                  rw [List.length_append] at hqn
                  have hst : (standF f 2020 0 0 (K ++ balanceL r)).2.2 = 0 → Stands 2020 (T ++ (K ++ balanceL r)) (standF f 2020 0 0 (K ++ balanceL r)).1 := fun hz => by
                    have he : entryF f 2020 0 0 K (K ++ balanceL r) = standF f 2020 0 0 (K ++ balanceL r) := by unfold entryF; rw [if_neg hc]
                    have := entry_stands (f := f) (y := 2020) (kind := 0) (of := 0) (l := K) (all := K ++ balanceL r) hS (by rw [he]; exact hz)
                    rw [he] at this; exact this
                  have hev := hKeven r hr
                  have hm3 := hm2.same hs3 (by have := hV2.ne.2.2; simp [Ne.symm this])
                  generalize K ++ balanceL r = A at hV3 hqn hst hev ⊢
                  generalize standF f 2020 0 0 A = q at hV3 hqn hst ⊢
                  rcases q with ⟨q0, qi, qe⟩
                  simp only at hV3 hqn hst ⊢
                  have h0 := Bool.eq_false_or_eq_true (qe != 0)
                  rcases h0 with ce | ce
                  · simp -dsimp only [Vm.G, List.lookup, Nat.reduceAdd, Nat.reduceBEq, Int.reduceBNe, Int.reduceBEq, Nat.reduceLeDiff, q5, ce]
                    refine call_one (S := abortSpec) rfl _ GaL.rfl ⟨V, q0, f, rfl, hV3, hm3, fun h4 hV4 hm4 hs4 => ?_⟩
                    simp -dsimp only [Vm.G, List.lookup, Nat.reduceAdd, Nat.reduceBEq, Int.reduceBNe, Int.reduceBEq, Nat.reduceLeDiff, q5]
                    refine kept_intro ⟨l.length - (i + 1), by omega, _, le_mk [(3, .ptr V.iv 0), (19, .sl 1 (l.map lnsAv)), (20, .v (.int .i64 l.length)), (21, .v (.int .i64 (i + 1 : Nat)))] ?_, i + 1, f, f, T, by omega, hV4, hm4, hS, hE, by omega, by omega, rfl⟩
                    simp only [List.forall_mem_cons, List.not_mem_nil, false_imp_iff, implies_true, and_true, hw]
                    try simp -dsimp only [Vm.G, List.lookup, Nat.reduceAdd, Nat.reduceBEq, Int.reduceBNe, Int.reduceBEq, Nat.reduceLeDiff, q5, hw]
                    repeat' first | exact Fg.refl _ | exact Fg.nil _ _ _ (by decide) | refine And.intro ?_ ?_
                  · have hz : qe = 0 := by simpa using ce
                    simp -dsimp only [Vm.G, List.lookup, Nat.reduceAdd, Nat.reduceBEq, Int.reduceBNe, Int.reduceBEq, Nat.reduceLeDiff, q5, ce]
                    refine kept_intro ⟨l.length - (i + 1), by omega, _, le_mk [(3, .ptr V.iv 0), (19, .sl 1 (l.map lnsAv)), (20, .v (.int .i64 l.length)), (21, .v (.int .i64 (i + 1 : Nat)))] ?_, i + 1, q0, f, T ++ A, by omega, hV3, hm3, hst hz, hE.append hev, by omega, by omega, rfl⟩
                    simp only [List.forall_mem_cons, List.not_mem_nil, false_imp_iff, implies_true, and_true, hw]
                    try simp -dsimp only [Vm.G, List.lookup, Nat.reduceAdd, Nat.reduceBEq, Int.reduceBNe, Int.reduceBEq, Nat.reduceLeDiff, q5, hw]
                    repeat' first | exact Fg.refl _ | exact Fg.nil _ _ _ (by decide) | refine And.intro ?_ ?_
      · have hge : ¬ i < l.length := by have := of_decide_eq_false hcc; omega
        clear hcc
        simp -dsimp only [Vm.G, List.lookup, Nat.reduceAdd, Nat.reduceBEq, Int.reduceBNe, Int.reduceBEq, Nat.reduceLeDiff, q5]
        refine call_one (S := trightSpec) rfl _ GaL.rfl ⟨V, f, 2020, rfl, hV, by omega, fun kv h2 hsc hV2 hs2 => ?_⟩
        have hrt := right_stands (y := 2020) (by unfold InR; omega) hS hE hsc
        simp -dsimp only [Vm.G, List.lookup, Nat.reduceAdd, Nat.reduceBEq, Int.reduceBNe, Int.reduceBEq, Nat.reduceLeDiff, q5, hrt]
        refine call_one (S := yesSpec) rfl _ GaL.rfl ⟨rfl, fun hz => ?_⟩
        simp -dsimp only [Vm.G, List.lookup, Nat.reduceAdd, Nat.reduceBEq, Int.reduceBNe, Int.reduceBEq, Nat.reduceLeDiff, q5]
        exact hq _
theorem trl_args {y0 : AV} (i0 : IsA (.sl (.sl (.agg [.int .i64, .int .i64, .int .i64, .int .i64]))) y0) {Q : AV → Heap → Prop} (hq : ∀ h', Q (.v (.bool true)) h') : trlSpec [y0] [] Q := by
  obtain ⟨l, hl, rfl, ho⟩ := isA_list (fun k : List Ln => k.length ≤ 9223372036854775807 ∧ ∀ x ∈ k, x.ok) lnsAv (fun y hy => by
    obtain ⟨k, hk, rfl, hko⟩ := isA_list _ lnAv (fun y hy => isA_lnk hy) hy
    exact ⟨k, ⟨Nat.le_trans hk (by decide), hko⟩, rfl⟩) i0
  exact ⟨l, Nat.le_trans hl (by decide), ho, rfl, hq⟩
end Go.Proofs.Lx
