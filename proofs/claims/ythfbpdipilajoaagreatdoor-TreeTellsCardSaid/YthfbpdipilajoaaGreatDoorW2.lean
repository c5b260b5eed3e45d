/- What the functions of the program do: their contracts. -/
import Derived.Test.YthfbpdipilajoaaGreatDoorV2
import Derived.Test.YthfbpdipilajoaaGreatDoorTFs
import Derived.Test.YthfbpdipilajoaaGreatDoorW1
/- Lists of structs: the same, turned round. -/
set_option linter.unusedSimpArgs false
set_option linter.unusedVariables false
namespace Go.Proofs.Lx
open Go.Vm
attribute [local irreducible] awpArr awpBin awpMake awpAppend awpCvX awpStrOf awpBinX awpSlice awpBS awpStore awpAlloc awpCopy awpIndex awpDraw awpIdxX awpFa awpField awpLookup awpUpdate awpDelete awpClear awpRange awpNext awpEntry awpBuild awpClearS awpIdxL awpTree appB awpIdxO eltA treeA
theorem flat_set {sz : Nat} {b : AV} (hb : b.cells.length = sz) : ∀ (xs : List AV) (i : Nat), (∀ x ∈ xs, x.cells.length = sz) → i < xs.length → putCells (flat xs) (i * sz) b.cells = flat (xs.set i b)
  | [], i, _, hi => by simp at hi
  | y :: r, 0, hu, _ => by
    have hy := hu y (List.mem_cons_self ..)
    have e : flat (y :: r) = y.cells ++ flat r := rfl
    have e2 : flat ((y :: r).set 0 b) = b.cells ++ flat r := rfl
    rw [e, e2, Nat.zero_mul]
    simp only [putCells, List.take_zero, List.nil_append, Nat.zero_add]
    rw [List.drop_left' (by omega)]
  | y :: r, i + 1, hu, hi => by
    have hy := hu y (List.mem_cons_self ..)
    have ih := flat_set hb r i (fun x hx => hu x (List.mem_cons_of_mem _ hx)) (by simpa using hi)
    have e : flat (y :: r) = y.cells ++ flat r := rfl
    have e2 : flat ((y :: r).set (i + 1) b) = y.cells ++ flat (r.set i b) := rfl
    rw [e, e2, ← ih]
    have h1 : (i + 1) * sz = y.cells.length + i * sz := by rw [Nat.add_mul]; omega
    simp only [putCells]
    rw [h1, List.take_append, List.take_of_length_le (by omega), Nat.add_sub_cancel_left, List.append_assoc, List.append_assoc]
    congr 1
    rw [List.append_assoc]
    congr 2
    rw [Nat.add_assoc, List.drop_append, List.drop_of_length_le (by omega), List.nil_append]
    congr 1
    omega
theorem set_mem {α : Type} {p : α → Prop} {xs : List α} {i : Nat} {b : α} (h : ∀ x ∈ xs, p x) (hb : p b) : ∀ x ∈ xs.set i b, p x := fun x hx => by
  rcases List.mem_or_eq_of_mem_set hx with h' | rfl
  · exact h x h'
  · exact hb
/-- Elements of so many cells each. -/
def revSpecDo5 : Vm.Spec := fun args h Q => ∃ (xs : List AV) (h0 : Heap) (c e : Nat), args = [.osl h0.length 0 xs.length c] ∧ h = h0 ++ [.row e (c * 5) (flat xs)] ∧ (∀ x ∈ xs, ∃ a, x = .agg a ∧ a.length = 5) ∧ xs.length ≤ 4611686018427387904 ∧
  Q (.tup []) (h0 ++ [.row e (c * 5) (flat xs.reverse)])
set_option maxRecDepth 20000 in
set_option maxHeartbeats 1000000 in
theorem does_revDo5 : Does Tryz.prog 41 revSpecDo5 := by
  refine does_of_awp good_nil Tryz.func41 rfl (by decide +kernel) (by decide +kernel) ?_
  rintro args h Q ⟨xs, h0, c, e, rfl, rfl, hu, hl, hq⟩
  refine ⟨by simp [Tryz.f41], ?_⟩
  rw [awpFunc_some (by rfl)]
  have hu2 : ∀ x ∈ xs, x.cells.length = 5 := fun x hx => by obtain ⟨a, rfl, ha⟩ := hu x hx; exact ha
  have hwn : IntKind.i64.wrap ((xs.length : Int) - 1) = (xs.length : Int) - 1 - ((0 : Nat) : Int) := by rw [wrap_i64 (by omega) (by omega)]; omega
  simp -dsimp only [Vm.E, List.lookup, Nat.reduceAdd, Nat.reduceBEq, Int.reduceBNe, Int.reduceBEq, Bool.true_beq, Bool.false_beq, Vm.S, Nat.reduceLeDiff, q41, hwn]
  refine awp_loop (fun m s h' => ∃ (i : Nat) (ys : List AV), i + m = xs.length ∧ ys.length = xs.length ∧ (∀ x ∈ ys, ∃ a, x = .agg a ∧ a.length = 5) ∧ (∀ k, k < xs.length → ys[k]? = if k < i ∨ xs.length ≤ k + i then xs[xs.length - 1 - k]? else xs[k]?) ∧ h' = h0 ++ [.row e (c * 5) (flat ys)] ∧
      s = mk [(0, .osl h0.length 0 xs.length c), (2, .v (.int .i64 i)), (3, .v (.int .i64 ((xs.length : Int) - 1 - i)))])
    xs.length _ (le_mk _ ?_) ⟨0, xs, by omega, rfl, hu, fun k hk => by rw [if_neg (by omega)], rfl, rfl⟩ ?_
  · simp only [List.forall_mem_cons, List.not_mem_nil, false_imp_iff, implies_true, and_true]
    try simp -dsimp only [Vm.E, List.lookup, Nat.reduceAdd, Nat.reduceBEq, Int.reduceBNe, Int.reduceBEq, Bool.true_beq, Bool.false_beq, Vm.S, Nat.reduceLeDiff, q41]
    repeat' first | exact Fg.refl _ | exact Fg.nil _ _ _ (by decide) | refine And.intro ?_ ?_
  · rintro m s h' ⟨i, ys, hi, hyl, hyu, hyk, rfl, rfl⟩
    simp -dsimp only [Vm.E, List.lookup, Nat.reduceAdd, Nat.reduceBEq, Int.reduceBNe, Int.reduceBEq, Bool.true_beq, Bool.false_beq, Vm.S, Nat.reduceLeDiff, q41]
    refine cond_intro (fun hcc => ?_) (fun hcc => ?_)
    · have hij : 2 * i + 1 < xs.length := by have := of_decide_eq_true hcc; omega
      obtain ⟨j, hj⟩ : ∃ j : Nat, j + i + 1 = xs.length := ⟨xs.length - 1 - i, by omega⟩
      have ej : (xs.length : Int) - 1 - i = (j : Nat) := by omega
      have hwi : IntKind.i64.wrap ((i : Int) + 1) = ((i + 1 : Nat) : Int) := by rw [wrap_i64 (by omega) (by omega)]; simp
      have hwj : IntKind.i64.wrap ((j : Int) - 1) = (xs.length : Int) - 1 - ((i + 1 : Nat) : Int) := by rw [wrap_i64 (by omega) (by omega)]; omega
      have hys : ∀ x ∈ ys, x.cells.length = 5 := fun x hx => by obtain ⟨a, rfl, ha⟩ := hyu x hx; exact ha
      have hfl := flat_length hys
      have hiy : i < ys.length := by omega
      have hjy : j < ys.length := by omega
      obtain ⟨a, hxa, hal⟩ := hyu ys[i] (List.getElem_mem hiy)
      obtain ⟨b, hxb, hbl⟩ := hyu ys[j] (List.getElem_mem hjy)
      obtain ⟨r1, r2⟩ := row_elem hys (cs := flat ys) (by rw [List.take_of_length_le (by omega)]) i hiy
      obtain ⟨r3, r4⟩ := row_elem hys (cs := flat ys) (by rw [List.take_of_length_le (by omega)]) j hjy
      rw [hxa] at r1
      rw [hxb] at r3
      have r1 : ((flat ys).drop (i * 5)).take 5 = a := r1
      have r3 : ((flat ys).drop (j * 5)).take 5 = b := r3
      have f1 : putCells (flat ys) (i * 5) b = flat (ys.set i (.agg b)) := flat_set (b := .agg b) hbl ys i hys hiy
      have hys2 : ∀ x ∈ ys.set i (.agg b), x.cells.length = 5 := set_mem (p := fun x : AV => x.cells.length = 5) hys hbl
      have f2 : putCells (flat (ys.set i (.agg b))) (j * 5) a = flat ((ys.set i (.agg b)).set j (.agg a)) := flat_set (b := .agg a) hal _ j hys2 (by rw [List.length_set]; exact hjy)
      have hfl2 := flat_length hys2
      rw [List.length_set] at hfl2
      rw [ej]
      simp -dsimp only [Vm.E, List.lookup, Nat.reduceAdd, Nat.reduceBEq, Int.reduceBNe, Int.reduceBEq, Bool.true_beq, Bool.false_beq, Vm.S, Nat.reduceLeDiff, q41]
      refine draw_cont [] (.take 0 (.take 1 (.take 2 (.take 3 (.take 4 (.take 5 (.take 6 (.take 8 (.take 9 (.take 10 (.alt 7 (.alt 11 (.take 12 (.alt 13 (.take 14 (.alt 15 (.done) .stop)) .stop)) .stop) (.alt 11 (.alt 7 (.take 12 (.alt 13 (.take 14 (.alt 15 (.done) .stop)) .stop)) .stop) (.stop))))))))))))) (fun s h2 => h2 = h0 ++ [.row e (c * 5) (flat ((ys.set i (.agg b)).set j (.agg a)))] ∧ s 0 = .osl h0.length 0 xs.length c ∧ s 2 = .v (.int .i64 i) ∧ s 3 = .v (.int .i64 j)) (by kernel_rfl) (by kernel_rfl) (by kernel_rfl) (by decide) ?_ ?_
      · repeat' first
          | with_reducible exact True.intro
          | simp -dsimp only [Vm.E, List.lookup, Nat.reduceAdd, Nat.reduceBEq, Int.reduceBNe, Int.reduceBEq, Bool.true_beq, Bool.false_beq, q41, Int.toNat_natCast, heap_last, heap_setLast, r1, r2, r3, r4, f1, f2]
          | refine idxL_intro (by omega) (by omega) ?_
          | refine store_row _ (heap_last _ _) rfl hbl.symm (by omega) ?_
          | refine store_row _ (heap_last _ _) rfl hal.symm (by omega) ?_
          | refine tree_alt ?_ ?_
          | simp only [heap_setLast, AV.cells, f1, f2]
      · rintro s h2 ⟨rfl, e0, e2, e3⟩
        simp -dsimp only [Vm.E, List.lookup, Nat.reduceAdd, Nat.reduceBEq, Int.reduceBNe, Int.reduceBEq, Bool.true_beq, Bool.false_beq, Vm.S, Nat.reduceLeDiff, q41, e0, e2, e3]
        refine kept_intro ⟨xs.length - (i + 1), by omega, _, le_mk [(0, .osl h0.length 0 xs.length c), (2, .v (.int .i64 (i + 1 : Nat))), (3, .v (.int .i64 ((xs.length : Int) - 1 - (i + 1 : Nat))))] ?_,
          i + 1, (ys.set i (.agg b)).set j (.agg a), by omega, by rw [List.length_set, List.length_set]; exact hyl, set_mem (p := fun x : AV => ∃ a, x = .agg a ∧ a.length = 5) (set_mem (p := fun x : AV => ∃ a, x = .agg a ∧ a.length = 5) hyu ⟨b, rfl, hbl⟩) ⟨a, rfl, hal⟩, fun k hk => ?_, rfl, rfl⟩
        · simp only [List.forall_mem_cons, List.not_mem_nil, false_imp_iff, implies_true, and_true, hwi, hwj, e0, e2, e3]
          try simp -dsimp only [Vm.E, List.lookup, Nat.reduceAdd, Nat.reduceBEq, Int.reduceBNe, Int.reduceBEq, Bool.true_beq, Bool.false_beq, Vm.S, Nat.reduceLeDiff, q41, hwi, hwj, e0, e2, e3]
          repeat' first | exact Fg.refl _ | exact Fg.nil _ _ _ (by decide) | refine And.intro ?_ ?_
        · have hki := hyk i (by omega)
          have hkj := hyk j (by omega)
          rw [if_neg (by omega), List.getElem?_eq_getElem hiy, hxa] at hki
          rw [if_neg (by omega), List.getElem?_eq_getElem hjy, hxb] at hkj
          by_cases h1 : k = j
          · subst h1
            rw [List.getElem?_set_self (by rw [List.length_set]; exact hjy), if_pos (by omega), show xs.length - 1 - k = i by omega]
            exact hki
          · rw [List.getElem?_set_ne (Ne.symm h1)]
            by_cases h2 : k = i
            · subst h2
              rw [List.getElem?_set_self hiy, if_pos (by omega), show xs.length - 1 - k = j by omega]
              exact hkj
            · rw [List.getElem?_set_ne (Ne.symm h2), hyk k hk]
              by_cases h3 : k < i ∨ xs.length ≤ k + i
              · rw [if_pos h3, if_pos (by omega)]
              · rw [if_neg h3, if_neg (by omega)]
    · have hge : ¬ 2 * i + 1 < xs.length := by have := of_decide_eq_false hcc; omega
      have er : ys = xs.reverse := by
        apply List.ext_getElem?
        intro k
        rcases Nat.lt_or_ge k xs.length with h | h
        · rw [hyk k h, List.getElem?_reverse h]
          split
          · rfl
          · have : xs.length - 1 - k = k := by omega
            rw [this]
        · rw [List.getElem?_eq_none (by omega), List.getElem?_eq_none (by rw [List.length_reverse]; omega)]
      subst er
      simp -dsimp only [Vm.E, List.lookup, Nat.reduceAdd, Nat.reduceBEq, Int.reduceBNe, Int.reduceBEq, Bool.true_beq, Bool.false_beq, Vm.S, Nat.reduceLeDiff, q41]
      exact hq
def revNilDo5 : Vm.Spec := fun args h Q => args = [.v (.slice none 0 0)] ∧ Q (.tup []) h
theorem does_revNilDo5 : Does Tryz.prog 41 revNilDo5 := by
  refine does_of_awp good_nil Tryz.func41 rfl (by decide +kernel) (by decide +kernel) ?_
  rintro args h Q ⟨rfl, hq⟩
  refine ⟨by simp [Tryz.f41], ?_⟩
  rw [awpFunc_some (by rfl)]
  have hwn : IntKind.i64.wrap ((0 : Int) - 1) = -1 := by decide
  simp -dsimp only [Vm.E, List.lookup, Nat.reduceAdd, Nat.reduceBEq, Int.reduceBNe, Int.reduceBEq, Bool.true_beq, Bool.false_beq, Vm.S, Nat.reduceLeDiff, q41, hwn]
  refine awp_loop (fun m s h' => h' = h ∧ s = mk [(2, .v (.int .i64 0)), (3, .v (.int .i64 (-1)))]) 0 _ (le_mk _ ?_) ⟨rfl, rfl⟩ ?_
  · simp only [List.forall_mem_cons, List.not_mem_nil, false_imp_iff, implies_true, and_true]
    try simp -dsimp only [Vm.E, List.lookup, Nat.reduceAdd, Nat.reduceBEq, Int.reduceBNe, Int.reduceBEq, Bool.true_beq, Bool.false_beq, Vm.S, Nat.reduceLeDiff, q41]
    repeat' first | exact Fg.refl _ | exact Fg.nil _ _ _ (by decide) | refine And.intro ?_ ?_
  · rintro m s h' ⟨rfl, rfl⟩
    simp -dsimp only [Vm.E, List.lookup, Nat.reduceAdd, Nat.reduceBEq, Int.reduceBNe, Int.reduceBEq, Bool.true_beq, Bool.false_beq, Vm.S, Nat.reduceLeDiff, q41]
    refine cond_intro (fun hcc => ?_) (fun hcc => ?_)
    · have := of_decide_eq_true hcc
      omega
    · simp -dsimp only [Vm.E, List.lookup, Nat.reduceAdd, Nat.reduceBEq, Int.reduceBNe, Int.reduceBEq, Bool.true_beq, Bool.false_beq, Vm.S, Nat.reduceLeDiff, q41]
      exact hq
theorem does_revSDo5 : Does Tryz.prog 41 (orS revSpecDo5 revNilDo5) := does_or does_revDo5 does_revNilDo5
theorem lnEq (x y : Ln) : ((x.fund == y.fund) && ((x.obj == y.obj) && ((x.node == y.node) && (x.amt == y.amt)))) = true ↔ x = y := by
  obtain ⟨a, b, c, d⟩ := x
  obtain ⟨a', b', c', d'⟩ := y
  simp
def eqSpecLn : Vm.Spec := fun args h Q => ∃ l l' : List Ln, l.length ≤ 9223372036854775807 ∧ args = [.sl 4 (l.map lnAv), .sl 4 (l'.map lnAv)] ∧ ∀ b : Bool, (b = true ↔ l = l') → Q (.v (.bool b)) h
set_option maxHeartbeats 1000000 in
theorem does_eqLn : Does Tryz.prog 72 eqSpecLn := by
  refine does_of_awp good_nil Tryz.func72 rfl (by decide +kernel) (by decide +kernel) ?_
  rintro args h Q ⟨l, l', hl, rfl, hq⟩
  refine ⟨by simp [Tryz.f72], ?_⟩
  rw [awpFunc_some (by rfl)]
  simp -dsimp only [Vm.E, List.lookup, Nat.reduceAdd, Nat.reduceBEq, Int.reduceBNe, Int.reduceBEq, Bool.true_beq, Bool.false_beq, Vm.S, Nat.reduceLeDiff, q72]
  by_cases hlen : l.length = l'.length
  · have c1 : ((l.length : Int) != l'.length) = false := by simp [hlen]
    simp -dsimp only [Vm.E, List.lookup, Nat.reduceAdd, Nat.reduceBEq, Int.reduceBNe, Int.reduceBEq, Bool.true_beq, Bool.false_beq, Vm.S, Nat.reduceLeDiff, q72, c1]
    refine awp_loop (fun m s h' => ∃ i : Nat, i + m = l.length ∧ h' = h ∧ (∀ j (hj : j < l.length), j < i → l[j] = l'[j]'(by omega)) ∧ s = mk [(0, .sl 4 (l.map lnAv)), (1, .sl 4 (l'.map lnAv)), (12, .v (.int .i64 l.length)), (13, .v (.int .i64 i))])
      l.length _ (le_mk _ ?_) ⟨0, by omega, rfl, fun j _ hj => by omega, rfl⟩ ?_
    · simp only [List.forall_mem_cons, List.not_mem_nil, false_imp_iff, implies_true, and_true]
      try simp -dsimp only [Vm.E, List.lookup, Nat.reduceAdd, Nat.reduceBEq, Int.reduceBNe, Int.reduceBEq, Bool.true_beq, Bool.false_beq, Vm.S, Nat.reduceLeDiff, q72]
      repeat' first | exact Fg.refl _ | exact Fg.nil _ _ _ (by decide) | refine And.intro ?_ ?_
    · rintro m s h' ⟨i, hi, rfl, hb, rfl⟩
      simp -dsimp only [Vm.E, List.lookup, Nat.reduceAdd, Nat.reduceBEq, Int.reduceBNe, Int.reduceBEq, Bool.true_beq, Bool.false_beq, Vm.S, Nat.reduceLeDiff, q72]
      refine cond_intro (fun hcc => ?_) (fun hcc => ?_)
      · have hlt : i < l.length := by have := of_decide_eq_true hcc; omega
        have hlt' : i < l'.length := by omega
        obtain ⟨x, hx⟩ : ∃ x, l[i] = x := ⟨_, rfl⟩
        obtain ⟨y, hy⟩ : ∃ y, l'[i] = y := ⟨_, rfl⟩
        have hw : IntKind.i64.wrap ((i : Int) + 1) = ((i + 1 : Nat) : Int) := by rw [wrap_i64 (by omega) (by omega)]; simp
        simp -dsimp only [Vm.E, List.lookup, Nat.reduceAdd, Nat.reduceBEq, Int.reduceBNe, Int.reduceBEq, Bool.true_beq, Bool.false_beq, Vm.S, Nat.reduceLeDiff, q72]
        refine draw_cont [] (.take 0 (.take 1 (.take 2 (.take 3 (.take 4 (.take 5 (.take 6 (.take 7 (.take 8 (.done)))))))))) (fun s hx => hx = h' ∧ (∃ b : Bool, (b = true ↔ x = y) ∧ s 24 = .v (.bool (!b))) ∧ s 0 = .sl 4 (l.map lnAv) ∧ s 1 = .sl 4 (l'.map lnAv) ∧ s 12 = .v (.int .i64 l.length) ∧ s 13 = .v (.int .i64 i)) (by kernel_rfl) (by kernel_rfl) (by kernel_rfl) (by decide) ?_ ?_
        · simp -dsimp only [Vm.E, List.lookup, Nat.reduceAdd, Nat.reduceBEq, Int.reduceBNe, Int.reduceBEq, Bool.true_beq, Bool.false_beq, Vm.S, Nat.reduceLeDiff, q72]
          refine idx_map lnAv l i hlt ?_
          simp only [hx, lnAv, lnCells]
          simp -dsimp only [Vm.E, List.lookup, Nat.reduceAdd, Nat.reduceBEq, Int.reduceBNe, Int.reduceBEq, Bool.true_beq, Bool.false_beq, Vm.S, Nat.reduceLeDiff, q72, AV.cells]
          refine idx_map lnAv l' i hlt' ?_
          simp only [hy, lnAv, lnCells]
          simp -dsimp only [Vm.E, List.lookup, Nat.reduceAdd, Nat.reduceBEq, Int.reduceBNe, Int.reduceBEq, Bool.true_beq, Bool.false_beq, Vm.S, Nat.reduceLeDiff, q72, AV.cells]
          refine eq_agg fd34 rfl ?_
          simp -dsimp only [Vm.E, List.lookup, Nat.reduceAdd, Nat.reduceBEq, Int.reduceBNe, Int.reduceBEq, Bool.true_beq, Bool.false_beq, Vm.S, Nat.reduceLeDiff, q72]
          refine ⟨⟨_, lnEq x y, rfl⟩, ?_⟩
          repeat' first | rfl | exact True.intro | refine And.intro ?_ ?_
        · rintro s hx2 ⟨rfl, ⟨b, hbe, e24⟩, e0, e1, e12, e13⟩
          cases b
          · have hne : ¬ l = l' := fun e => by
              have : x = y := by subst e; rw [← hx, ← hy]
              have := hbe.2 this
              cases this
            simp -dsimp only [Vm.E, List.lookup, Nat.reduceAdd, Nat.reduceBEq, Int.reduceBNe, Int.reduceBEq, Bool.true_beq, Bool.false_beq, Vm.S, Nat.reduceLeDiff, q72, e24, e0, e1, e12, e13]
            exact hq false ⟨fun h => (by cases h), fun h => (hne h).elim⟩
          · have he := hbe.1 rfl
            simp -dsimp only [Vm.E, List.lookup, Nat.reduceAdd, Nat.reduceBEq, Int.reduceBNe, Int.reduceBEq, Bool.true_beq, Bool.false_beq, Vm.S, Nat.reduceLeDiff, q72, e24, e0, e1, e12, e13]
            refine kept_intro ⟨l.length - (i + 1), by omega, _, le_mk [(0, .sl 4 (l.map lnAv)), (1, .sl 4 (l'.map lnAv)), (12, .v (.int .i64 l.length)), (13, .v (.int .i64 (i + 1 : Nat)))] ?_, i + 1, by omega, rfl, fun j hj hj2 => ?_, rfl⟩
            · simp only [List.forall_mem_cons, List.not_mem_nil, false_imp_iff, implies_true, and_true, hw, e24, e0, e1, e12, e13]
              try simp -dsimp only [Vm.E, List.lookup, Nat.reduceAdd, Nat.reduceBEq, Int.reduceBNe, Int.reduceBEq, Bool.true_beq, Bool.false_beq, Vm.S, Nat.reduceLeDiff, q72, hw, e24, e0, e1, e12, e13]
              repeat' first | exact Fg.refl _ | exact Fg.nil _ _ _ (by decide) | refine And.intro ?_ ?_
            · by_cases hji : j = i
              · subst hji; rw [hx, hy]; exact he
              · exact hb j hj (by omega)
      · have hge : ¬ i < l.length := by have := of_decide_eq_false hcc; omega
        have he : l = l' := List.ext_getElem hlen fun j h1 h2 => hb j h1 (by omega)
        simp -dsimp only [Vm.E, List.lookup, Nat.reduceAdd, Nat.reduceBEq, Int.reduceBNe, Int.reduceBEq, Bool.true_beq, Bool.false_beq, Vm.S, Nat.reduceLeDiff, q72]
        exact hq true ⟨fun _ => he, fun _ => rfl⟩
  · have c1 : ((l.length : Int) != l'.length) = true := by simp; omega
    simp -dsimp only [Vm.E, List.lookup, Nat.reduceAdd, Nat.reduceBEq, Int.reduceBNe, Int.reduceBEq, Bool.true_beq, Bool.false_beq, Vm.S, Nat.reduceLeDiff, q72, c1]
    exact hq false ⟨fun h => (by cases h), fun h => (hlen (by rw [h])).elim⟩
theorem ndEq (x y : Nd) : ((x.year == y.year) && ((x.id == y.id) && ((x.parent == y.parent) && ((x.fund == y.fund) && ((x.obj == y.obj) && ((x.abs == y.abs) && ((x.limit == y.limit) && ((x.pre == y.pre) && ((x.enc == y.enc) && ((x.exp == y.exp) && ((x.lapsed == y.lapsed) && (x.carried == y.carried)))))))))))) = true ↔ x = y := by
  obtain ⟨a1, a2, a3, a4, a5, a6, a7, a8, a9, a10, a11, a12⟩ := x
  obtain ⟨b1, b2, b3, b4, b5, b6, b7, b8, b9, b10, b11, b12⟩ := y
  simp
def eqSpecNd : Vm.Spec := fun args h Q => ∃ l l' : List Nd, l.length ≤ 9223372036854775807 ∧ args = [.sl 12 (l.map ndAv), .sl 12 (l'.map ndAv)] ∧ ∀ b : Bool, (b = true ↔ l = l') → Q (.v (.bool b)) h
set_option maxHeartbeats 1000000 in
theorem does_eqNd : Does Tryz.prog 59 eqSpecNd := by
  refine does_of_awp good_nil Tryz.func59 rfl (by decide +kernel) (by decide +kernel) ?_
  rintro args h Q ⟨l, l', hl, rfl, hq⟩
  refine ⟨by simp [Tryz.f59], ?_⟩
  rw [awpFunc_some (by rfl)]
  simp -dsimp only [Vm.E, List.lookup, Nat.reduceAdd, Nat.reduceBEq, Int.reduceBNe, Int.reduceBEq, Bool.true_beq, Bool.false_beq, Vm.S, Nat.reduceLeDiff, q59]
  by_cases hlen : l.length = l'.length
  · have c1 : ((l.length : Int) != l'.length) = false := by simp [hlen]
    simp -dsimp only [Vm.E, List.lookup, Nat.reduceAdd, Nat.reduceBEq, Int.reduceBNe, Int.reduceBEq, Bool.true_beq, Bool.false_beq, Vm.S, Nat.reduceLeDiff, q59, c1]
    refine awp_loop (fun m s h' => ∃ i : Nat, i + m = l.length ∧ h' = h ∧ (∀ j (hj : j < l.length), j < i → l[j] = l'[j]'(by omega)) ∧ s = mk [(0, .sl 12 (l.map ndAv)), (1, .sl 12 (l'.map ndAv)), (12, .v (.int .i64 l.length)), (13, .v (.int .i64 i))])
      l.length _ (le_mk _ ?_) ⟨0, by omega, rfl, fun j _ hj => by omega, rfl⟩ ?_
    · simp only [List.forall_mem_cons, List.not_mem_nil, false_imp_iff, implies_true, and_true]
      try simp -dsimp only [Vm.E, List.lookup, Nat.reduceAdd, Nat.reduceBEq, Int.reduceBNe, Int.reduceBEq, Bool.true_beq, Bool.false_beq, Vm.S, Nat.reduceLeDiff, q59]
      repeat' first | exact Fg.refl _ | exact Fg.nil _ _ _ (by decide) | refine And.intro ?_ ?_
    · rintro m s h' ⟨i, hi, rfl, hb, rfl⟩
      simp -dsimp only [Vm.E, List.lookup, Nat.reduceAdd, Nat.reduceBEq, Int.reduceBNe, Int.reduceBEq, Bool.true_beq, Bool.false_beq, Vm.S, Nat.reduceLeDiff, q59]
      refine cond_intro (fun hcc => ?_) (fun hcc => ?_)
      · have hlt : i < l.length := by have := of_decide_eq_true hcc; omega
        have hlt' : i < l'.length := by omega
        obtain ⟨x, hx⟩ : ∃ x, l[i] = x := ⟨_, rfl⟩
        obtain ⟨y, hy⟩ : ∃ y, l'[i] = y := ⟨_, rfl⟩
        have hw : IntKind.i64.wrap ((i : Int) + 1) = ((i + 1 : Nat) : Int) := by rw [wrap_i64 (by omega) (by omega)]; simp
        simp -dsimp only [Vm.E, List.lookup, Nat.reduceAdd, Nat.reduceBEq, Int.reduceBNe, Int.reduceBEq, Bool.true_beq, Bool.false_beq, Vm.S, Nat.reduceLeDiff, q59]
        refine draw_cont [] (.take 0 (.take 1 (.take 2 (.take 3 (.take 4 (.take 5 (.take 6 (.take 7 (.take 8 (.done)))))))))) (fun s hx => hx = h' ∧ (∃ b : Bool, (b = true ↔ x = y) ∧ s 24 = .v (.bool (!b))) ∧ s 0 = .sl 12 (l.map ndAv) ∧ s 1 = .sl 12 (l'.map ndAv) ∧ s 12 = .v (.int .i64 l.length) ∧ s 13 = .v (.int .i64 i)) (by kernel_rfl) (by kernel_rfl) (by kernel_rfl) (by decide) ?_ ?_
        · simp -dsimp only [Vm.E, List.lookup, Nat.reduceAdd, Nat.reduceBEq, Int.reduceBNe, Int.reduceBEq, Bool.true_beq, Bool.false_beq, Vm.S, Nat.reduceLeDiff, q59]
          refine idx_map ndAv l i hlt ?_
          simp only [hx, ndAv, ndCells]
          simp -dsimp only [Vm.E, List.lookup, Nat.reduceAdd, Nat.reduceBEq, Int.reduceBNe, Int.reduceBEq, Bool.true_beq, Bool.false_beq, Vm.S, Nat.reduceLeDiff, q59, AV.cells]
          refine idx_map ndAv l' i hlt' ?_
          simp only [hy, ndAv, ndCells]
          simp -dsimp only [Vm.E, List.lookup, Nat.reduceAdd, Nat.reduceBEq, Int.reduceBNe, Int.reduceBEq, Bool.true_beq, Bool.false_beq, Vm.S, Nat.reduceLeDiff, q59, AV.cells]
          refine eq_agg fd25 rfl ?_
          simp -dsimp only [Vm.E, List.lookup, Nat.reduceAdd, Nat.reduceBEq, Int.reduceBNe, Int.reduceBEq, Bool.true_beq, Bool.false_beq, Vm.S, Nat.reduceLeDiff, q59]
          refine ⟨⟨_, ndEq x y, rfl⟩, ?_⟩
          repeat' first | rfl | exact True.intro | refine And.intro ?_ ?_
        · rintro s hx2 ⟨rfl, ⟨b, hbe, e24⟩, e0, e1, e12, e13⟩
          cases b
          · have hne : ¬ l = l' := fun e => by
              have : x = y := by subst e; rw [← hx, ← hy]
              have := hbe.2 this
              cases this
            simp -dsimp only [Vm.E, List.lookup, Nat.reduceAdd, Nat.reduceBEq, Int.reduceBNe, Int.reduceBEq, Bool.true_beq, Bool.false_beq, Vm.S, Nat.reduceLeDiff, q59, e24, e0, e1, e12, e13]
            exact hq false ⟨fun h => (by cases h), fun h => (hne h).elim⟩
          · have he := hbe.1 rfl
            simp -dsimp only [Vm.E, List.lookup, Nat.reduceAdd, Nat.reduceBEq, Int.reduceBNe, Int.reduceBEq, Bool.true_beq, Bool.false_beq, Vm.S, Nat.reduceLeDiff, q59, e24, e0, e1, e12, e13]
            refine kept_intro ⟨l.length - (i + 1), by omega, _, le_mk [(0, .sl 12 (l.map ndAv)), (1, .sl 12 (l'.map ndAv)), (12, .v (.int .i64 l.length)), (13, .v (.int .i64 (i + 1 : Nat)))] ?_, i + 1, by omega, rfl, fun j hj hj2 => ?_, rfl⟩
            · simp only [List.forall_mem_cons, List.not_mem_nil, false_imp_iff, implies_true, and_true, hw, e24, e0, e1, e12, e13]
              try simp -dsimp only [Vm.E, List.lookup, Nat.reduceAdd, Nat.reduceBEq, Int.reduceBNe, Int.reduceBEq, Bool.true_beq, Bool.false_beq, Vm.S, Nat.reduceLeDiff, q59, hw, e24, e0, e1, e12, e13]
              repeat' first | exact Fg.refl _ | exact Fg.nil _ _ _ (by decide) | refine And.intro ?_ ?_
            · by_cases hji : j = i
              · subst hji; rw [hx, hy]; exact he
              · exact hb j hj (by omega)
      · have hge : ¬ i < l.length := by have := of_decide_eq_false hcc; omega
        have he : l = l' := List.ext_getElem hlen fun j h1 h2 => hb j h1 (by omega)
        simp -dsimp only [Vm.E, List.lookup, Nat.reduceAdd, Nat.reduceBEq, Int.reduceBNe, Int.reduceBEq, Bool.true_beq, Bool.false_beq, Vm.S, Nat.reduceLeDiff, q59]
        exact hq true ⟨fun _ => he, fun _ => rfl⟩
  · have c1 : ((l.length : Int) != l'.length) = true := by simp; omega
    simp -dsimp only [Vm.E, List.lookup, Nat.reduceAdd, Nat.reduceBEq, Int.reduceBNe, Int.reduceBEq, Bool.true_beq, Bool.false_beq, Vm.S, Nat.reduceLeDiff, q59, c1]
    exact hq false ⟨fun h => (by cases h), fun h => (hlen (by rw [h])).elim⟩
end Go.Proofs.Lx
/- The law BalBack. -/
set_option linter.unusedSimpArgs false
set_option linter.unusedVariables false
namespace Go.Proofs.Lx
open Go.Vm
attribute [local irreducible] awpArr awpBin awpMake awpAppend awpCvX awpStrOf awpBinX awpSlice awpBS awpStore awpAlloc awpCopy awpIndex awpDraw awpIdxX awpFa awpField awpLookup awpUpdate awpDelete awpClear awpRange awpNext awpEntry awpBuild awpClearS awpIdxL awpTree appB awpIdxO eltA treeA
/-- A balance that is set, as it is seen. -/
def setv (f : Fun) (key : List UInt8) (n : Int) (q : List UInt8) : Option (List UInt8) := if q = key then (if n = 0 then none else some (be 8 n)) else f q
theorem balSet_app (f : Fun) (key : List UInt8) (n : Int) (q : List UInt8) : balSet f key n q = setv f key n q := by
  unfold balSet setv
  by_cases h0 : n = 0
  · simp only [if_pos h0]
    by_cases hf : f key = none
    · rw [if_pos hf]
      by_cases hq : q = key
      · rw [if_pos hq, hq]; exact hf
      · rw [if_neg hq]
    · rw [if_neg hf, upd_app]
  · simp only [if_neg h0]
    rw [upd_app]
theorem balSet_n (f : Fun) (key : List UInt8) (n : Int) : (balSet f key n).n ≤ f.n + 1 := by
  unfold balSet
  split
  · split
    · exact Nat.le_succ _
    · exact Nat.le_refl _
  · exact Nat.le_refl _
theorem balAdd_n (f : Fun) (key : List UInt8) (a : Int) : (balAdd f key a).1.n ≤ f.n + 1 := by
  unfold balAdd
  split
  · exact balSet_n f key _
  · exact Nat.le_succ _
/-- Only balances stand there, none of 0. -/
def GoodB (f : Fun) : Prop := ∀ q v, f q = some v → ∃ n, I64 n ∧ n ≠ 0 ∧ v = be 8 n
abbrev Dk := Int × Ln
def dkKey (k : Dk) : List UInt8 := balK k.1 k.2.fund k.2.obj
/-- What was added, the last ahead. -/
def ChainR : List Dk → Fun → Prop
  | [], f => ∀ q, f q = none
  | k :: r, f' => ∃ f : Fun, ChainR r f ∧ GoodB f ∧ ∃ n, addA (readOf f (dkKey k)) k.2.amt = some n ∧ ∀ q, f' q = setv f (dkKey k) n q
theorem ChainR.congr {f g : Fun} (h : ∀ q, f q = g q) : ∀ {r : List Dk}, ChainR r f → ChainR r g
  | [], hc => fun q => by rw [← h q]; exact hc q
  | k :: r, ⟨f0, h1, h2, n, h3, h4⟩ => ⟨f0, h1, h2, n, h3, fun q => by rw [← h q]; exact h4 q⟩
theorem readOf_none {f : Fun} {k : List UInt8} (h : f k = none) : readOf f k = 0 := by unfold readOf; rw [h]
theorem readOf_some {f : Fun} {k : List UInt8} {n : Int} (hn : I64 n) (h : f k = some (be 8 n)) : readOf f k = n := by
  unfold readOf; rw [h]
  simp only [be_length, if_true]
  exact num8_be n hn
theorem setv_read {f f' : Fun} {key : List UInt8} {n : Int} (hn : I64 n) (h : ∀ q, f' q = setv f key n q) : readOf f' key = n := by
  have hk := h key
  unfold setv at hk
  rw [if_pos rfl] at hk
  by_cases h0 : n = 0
  · rw [if_pos h0] at hk; rw [readOf_none hk, h0]
  · rw [if_neg h0] at hk; exact readOf_some hn hk
theorem setv_good {f f' : Fun} {key : List UInt8} {n : Int} (hg : GoodB f) (hn : I64 n) (h : ∀ q, f' q = setv f key n q) : GoodB f' := fun q v hv => by
  rw [h q] at hv
  unfold setv at hv
  split at hv
  · split at hv
    · cases hv
    · rename_i h0; cases hv; exact ⟨n, hn, h0, rfl⟩
  · exact hg q v hv
theorem fits_iff (n : Int) : fitsP n = true ↔ -4611686018427387904 ≤ n ∧ n ≤ 4611686018427387904 := by simp [fitsP]
theorem addA_some {a b n : Int} : addA a b = some n ↔ fitsP a = true ∧ fitsP b = true ∧ fitsP (w64 (a + b)) = true ∧ n = w64 (a + b) := by
  unfold addA
  constructor
  · intro h
    split at h
    · rename_i hc
      simp only [Bool.and_eq_true] at hc
      cases h; exact ⟨hc.1, hc.2.1, hc.2.2, rfl⟩
    · cases h
  · rintro ⟨h1, h2, h3, rfl⟩
    simp [h1, h2, h3]
theorem addA_sum {a b n : Int} (h : addA a b = some n) : n = a + b ∧ fitsP n = true := by
  obtain ⟨h1, h2, h3, rfl⟩ := addA_some.1 h
  rw [fits_iff] at h1 h2
  refine ⟨?_, h3⟩
  by_cases hm : a + b = 9223372036854775808
  · rw [hm] at h3
    exact absurd h3 (by decide)
  · exact wrap_i64 (by omega) (by omega)
theorem neg_amt {b : Int} (h : fitsP b = true) : w64 (0 - b) = -b := by
  rw [fits_iff] at h
  have : w64 (0 - b) = 0 - b := wrap_i64 (by omega) (by omega)
  rw [this]; omega
/-- What was added is taken off. -/
theorem chain_back {k : Dk} {r : List Dk} {f' : Fun} (h : ChainR (k :: r) f') : (balAdd f' (dkKey k) (w64 (0 - k.2.amt))).2 = 0 ∧ ChainR r (balAdd f' (dkKey k) (w64 (0 - k.2.amt))).1 := by
  obtain ⟨f, h1, h2, n, h3, h4⟩ := h
  have hr := setv_read (addA_i64 h3) h4
  obtain ⟨hs, hfn⟩ := addA_sum h3
  obtain ⟨a1, a2, a3, -⟩ := addA_some.1 h3
  have hb : addA (readOf f' (dkKey k)) (w64 (0 - k.2.amt)) = some (readOf f (dkKey k)) := by
    rw [hr, neg_amt a2]
    have e : n + -k.2.amt = readOf f (dkKey k) := by omega
    have b1 := a1
    rw [fits_iff] at b1
    have ew : w64 (n + -k.2.amt) = readOf f (dkKey k) := by rw [e]; exact wrap_i64 (by omega) (by omega)
    refine addA_some.2 ⟨hfn, ?_, by rw [ew]; exact a1, ew.symm⟩
    rw [fits_iff] at a2 ⊢
    omega
  unfold balAdd
  rw [hb]
  refine ⟨rfl, h1.congr fun q => ?_⟩
  rw [balSet_app]
  unfold setv
  split
  · rename_i hq
    subst hq
    cases hf : f (dkKey k) with
    | none => rw [readOf_none hf]; simp
    | some v =>
      obtain ⟨m, hm, hm0, rfl⟩ := h2 _ _ hf
      rw [readOf_some hm hf, if_neg hm0]
  · rename_i hq
    rw [h4 q]
    unfold setv
    rw [if_neg hq]
theorem chain_add {k : Dk} {r : List Dk} {f : Fun} (hc : ChainR r f) (hg : GoodB f) (h : (balAdd f (dkKey k) k.2.amt).2 = 0) : ChainR (k :: r) (balAdd f (dkKey k) k.2.amt).1 ∧ GoodB (balAdd f (dkKey k) k.2.amt).1 := by
  unfold balAdd at h ⊢
  cases ha : addA (readOf f (dkKey k)) k.2.amt with
  | none => rw [ha] at h; simp at h
  | some n => exact ⟨⟨f, hc, hg, n, ha, fun q => balSet_app f _ n q⟩, setv_good hg (addA_i64 ha) fun q => balSet_app f _ n q⟩
theorem balAdd_no {f : Fun} {key : List UInt8} {a : Int} (h : (balAdd f key a).2 ≠ 0) : (balAdd f key a).1 = f := by
  unfold balAdd at h ⊢
  split
  · rename_i n hn; rw [hn] at h; simp at h
  · rfl
theorem good_no : GoodB noF := fun q v h => by cases h
theorem scan_nil {f : Fun} {l : List KV} (h : ScanIs f [] l) (hf : ∀ q, f q = none) : l = [] := by
  cases l with
  | nil => rfl
  | cons p r =>
    have := ((h.2 p.1 p.2).1 (List.mem_cons_self ..)).1
    rw [hf] at this; cases this
def lnW : Ln := ⟨100, 5010, 0, 7⟩
theorem bw_add : balAdd noF (balK 2020 100 5010) 7 = (upd noF (balK 2020 100 5010) (some (be 8 7)), 0) := by
  unfold balAdd
  have e : addA (readOf noF (balK 2020 100 5010)) 7 = some 7 := by decide
  rw [e]; rfl
theorem bw_all : allB 2020 ((tput (balK 2020 100 5010) (be 8 7) []).filter fun p => (keyOf 66 [2020]).isPrefixOf p.1) = [lnW] := by kernel_rfl
set_option maxRecDepth 20000 in
theorem does_law25awake : Does Tryz.prog 39 trueSpec := by
  refine does_of_awp (good_cons does_vnewA (good_cons does_balAdd (good_cons does_balGet (good_cons does_balAll (good_cons does_eqLn good_nil))))) Tryz.func39 rfl (by decide +kernel) (by decide +kernel) ?_
  rintro args h Q ⟨rfl, hq⟩
  refine ⟨by simp [Tryz.f39], ?_⟩
  rw [awpFunc_some (by rfl)]
  simp -dsimp only [Vm.E, List.lookup, Nat.reduceAdd, Nat.reduceBEq, Int.reduceBNe, Int.reduceBEq, Bool.true_beq, Bool.false_beq, Vm.S, Nat.reduceLeDiff, q39]
  refine call_one (S := vnewASpec) rfl _ GaL.rfl ⟨rfl, fun V h0 hV => ?_⟩
  simp -dsimp only [Vm.E, List.lookup, Nat.reduceAdd, Nat.reduceBEq, Int.reduceBNe, Int.reduceBEq, Bool.true_beq, Bool.false_beq, Vm.S, Nat.reduceLeDiff, q39]
  refine draw_cont [2] (.take 0 (.take 1 (.take 2 (.take 3 (.take 4 (.alt 5 (.take 6 (.take 7 (.take 8 (.take 9 (.alt 10 (.take 11 (.take 12 (.take 13 (.take 14 (.take 16 (.alt 15 (.alt 17 (.alt 18 (.take 19 (.alt 20 (.done) .stop)) .stop) .stop) (.alt 17 (.alt 15 (.alt 18 (.take 19 (.alt 20 (.done) .stop)) .stop) .stop) (.stop)))))))) .stop))))) .stop)))))) (fun s h' => s 0 = .v (.bool true)) (by kernel_rfl) (by kernel_rfl) (by kernel_rfl) (by decide) ?_ ?_
  · simp -dsimp only [Vm.E, List.lookup, Nat.reduceAdd, Nat.reduceBEq, Int.reduceBNe, Int.reduceBEq, Bool.true_beq, Bool.false_beq, Vm.S, Nat.reduceLeDiff, q39]
    refine nil_pointer Tryz.underlying26 ?_
    simp -dsimp only [Vm.E, List.lookup, Nat.reduceAdd, Nat.reduceBEq, Int.reduceBNe, Int.reduceBEq, Bool.true_beq, Bool.false_beq, Vm.S, Nat.reduceLeDiff, q39]
    refine call_one (S := balAddSpec) rfl _ GaL.rfl ⟨V, noF, 2020, lnW, rfl, hV, fun h1 hV1 _ => ?_⟩
    have e1 : balAdd noF (balK 2020 lnW.fund lnW.obj) lnW.amt = (upd noF (balK 2020 100 5010) (some (be 8 7)), 0) := bw_add
    rw [e1] at hV1 ⊢
    simp -dsimp only [Vm.E, List.lookup, Nat.reduceAdd, Nat.reduceBEq, Int.reduceBNe, Int.reduceBEq, Bool.true_beq, Bool.false_beq, Vm.S, Nat.reduceLeDiff, q39]
    refine call_one (S := balGetSpec) rfl _ GaL.rfl ⟨V, _, 2020, 100, 5010, rfl, hV1, ?_⟩
    have e2 : readOf (upd noF (balK 2020 100 5010) (some (be 8 7))) (balK 2020 100 5010) = 7 := by rw [readOf_upd _ _ _ _ (by unfold I64; omega), if_pos rfl]
    rw [e2]
    repeat' first
      | with_reducible exact True.intro
      | simp -dsimp only [Vm.E, List.lookup, Nat.reduceAdd, Nat.reduceBEq, Int.reduceBNe, Int.reduceBEq, Bool.true_beq, Bool.false_beq, Vm.S, Nat.reduceLeDiff, q39]
      | (refine call_one (S := balAllSpec) rfl _ GaL.rfl ⟨V, _, 2020, rfl, hV1, by decide, fun l h2 hsc _ hV2 _ => ?_⟩; rw [hsc.same ((TabIs.new.put _ _).scan _), bw_all])
      | refine bs_intro zr34 (by decide) (by decide) rfl rfl (by simp [solid, AV.cells]) ?_
      | (refine call_one (S := eqSpecLn) rfl _ GaL.rfl ⟨[lnW], [lnW], by simp, rfl, fun b hb => ?_⟩; (have hb1 : b = true := hb.2 rfl); subst hb1)
      | refine tree_alt ?_ ?_
  · rintro s h' e0
    simp -dsimp only [Vm.E, List.lookup, Nat.reduceAdd, Nat.reduceBEq, Int.reduceBNe, Int.reduceBEq, Bool.true_beq, Bool.false_beq, Vm.S, Nat.reduceLeDiff, q39, e0]
    exact hq _
def d5Av (k : Dk) : AV := .agg (.v (.int .i64 k.1) :: lnCells k.2)
def backSpec : Vm.Spec := fun args h Q => ∃ l : List Dk, l.length ≤ 9223372036854775807 ∧ args = [.sl 5 (l.map d5Av)] ∧ ∀ h', Q (.v (.bool true)) h'
set_option maxRecDepth 20000 in
set_option maxHeartbeats 4000000 in
theorem does_back : Does Tryz.prog 7 backSpec := by
  refine does_of_awp (good_cons does_vnewA (good_cons does_balAdd (good_cons does_revSDo5 (good_cons does_scan (good_cons does_law25awake good_nil))))) Tryz.func7 rfl (by decide +kernel) (by decide +kernel) ?_
  rintro args h Q ⟨l, hl, rfl, hq⟩
  refine ⟨by simp [Tryz.f7], ?_⟩
  rw [awpFunc_some (by rfl)]
  simp -dsimp only [Vm.E, List.lookup, Nat.reduceAdd, Nat.reduceBEq, Int.reduceBNe, Int.reduceBEq, Bool.true_beq, Bool.false_beq, Vm.S, Nat.reduceLeDiff, q7]
  cases c60 : decide ((l.length : Int) > 60)
  · have d60 := of_decide_eq_false c60
    simp -dsimp only [Vm.E, List.lookup, Nat.reduceAdd, Nat.reduceBEq, Int.reduceBNe, Int.reduceBEq, Bool.true_beq, Bool.false_beq, Vm.S, Nat.reduceLeDiff, q7]
    refine call_one (S := vnewASpec) rfl _ GaL.rfl ⟨rfl, fun V h0 hV => ?_⟩
    simp -dsimp only [Vm.E, List.lookup, Nat.reduceAdd, Nat.reduceBEq, Int.reduceBNe, Int.reduceBEq, Bool.true_beq, Bool.false_beq, Vm.S, Nat.reduceLeDiff, q7]
    refine awp_loop (fun m s h' => ∃ (i : Nat) (f : Fun) (d : List Dk), i + m = l.length ∧ isView h' V f ∧ f.n ≤ i ∧ d.length ≤ i ∧ ChainR d.reverse f ∧ GoodB f ∧ s = mk [(3, .ptr V.iv 0), (4, .own true 72 5 (d.map d5Av)), (14, .sl 5 (l.map d5Av)), (15, .v (.int .i64 l.length)), (16, .v (.int .i64 (i : Nat)))])
      l.length _ (le_mk _ ?_) ⟨0, noF, [], by omega, hV, Nat.le_refl _, Nat.le_refl _, fun q => rfl, good_no, rfl⟩ ?_
    · simp only [List.forall_mem_cons, List.not_mem_nil, false_imp_iff, implies_true, and_true]
      try simp -dsimp only [Vm.E, List.lookup, Nat.reduceAdd, Nat.reduceBEq, Int.reduceBNe, Int.reduceBEq, Bool.true_beq, Bool.false_beq, Vm.S, Nat.reduceLeDiff, q7]
      repeat' first | exact Fg.refl _ | exact Fg.nil _ _ _ (by decide) | refine And.intro ?_ ?_
    · clear hV
      rintro m s h' ⟨i, f, d, hi, hV, hfn, hdl, hch, hgd, rfl⟩
      simp -dsimp only [Vm.E, List.lookup, Nat.reduceAdd, Nat.reduceBEq, Int.reduceBNe, Int.reduceBEq, Bool.true_beq, Bool.false_beq, Vm.S, Nat.reduceLeDiff, q7]
      refine cond_intro (fun hcc => ?_) (fun hcc => ?_)
      · have hlt : i < l.length := by have := of_decide_eq_true hcc; omega
        have hw : IntKind.i64.wrap ((i : Int) + 1) = ((i + 1 : Nat) : Int) := by rw [wrap_i64 (by omega) (by omega)]; simp
        simp -dsimp only [Vm.E, List.lookup, Nat.reduceAdd, Nat.reduceBEq, Int.reduceBNe, Int.reduceBEq, Bool.true_beq, Bool.false_beq, Vm.S, Nat.reduceLeDiff, q7]
        refine idx_map d5Av l i hlt ?_
        obtain ⟨k, hk⟩ : ∃ k, l[i] = k := ⟨_, rfl⟩
        have hnn := balAdd_n f (dkKey k) k.2.amt
        simp only [hk, d5Av, lnCells]
        simp -dsimp only [Vm.E, List.lookup, Nat.reduceAdd, Nat.reduceBEq, Int.reduceBNe, Int.reduceBEq, Bool.true_beq, Bool.false_beq, Vm.S, Nat.reduceLeDiff, q7, AV.cells]
        refine call_one (S := balAddSpec) rfl _ GaL.rfl ⟨V, f, k.1, k.2, rfl, hV, fun h2 hV2 _ => ?_⟩
        have ek : balK k.1 k.2.fund k.2.obj = dkKey k := rfl
        simp only [ek] at hV2 ⊢
        simp -dsimp only [Vm.E, List.lookup, Nat.reduceAdd, Nat.reduceBEq, Int.reduceBNe, Int.reduceBEq, Bool.true_beq, Bool.false_beq, Vm.S, Nat.reduceLeDiff, q7]
        cases c0 : ((balAdd f (dkKey k) k.2.amt).2 == 0)
        · have hno := balAdd_no (f := f) (key := dkKey k) (a := k.2.amt) (by simpa using c0)
          rw [hno] at hV2
          simp -dsimp only [Vm.E, List.lookup, Nat.reduceAdd, Nat.reduceBEq, Int.reduceBNe, Int.reduceBEq, Bool.true_beq, Bool.false_beq, Vm.S, Nat.reduceLeDiff, q7]
          refine kept_intro ⟨l.length - (i + 1), by omega, _, le_mk [(3, .ptr V.iv 0), (4, .own true 72 5 (d.map d5Av)), (14, .sl 5 (l.map d5Av)), (15, .v (.int .i64 l.length)), (16, .v (.int .i64 (i + 1 : Nat)))] ?_, i + 1, f, d, by omega, hV2, by omega, by omega, hch, hgd, rfl⟩
          simp only [List.forall_mem_cons, List.not_mem_nil, false_imp_iff, implies_true, and_true, hw]
          try simp -dsimp only [Vm.E, List.lookup, Nat.reduceAdd, Nat.reduceBEq, Int.reduceBNe, Int.reduceBEq, Bool.true_beq, Bool.false_beq, Vm.S, Nat.reduceLeDiff, q7, hw]
          repeat' first | exact Fg.refl _ | exact Fg.nil _ _ _ (by decide) | refine And.intro ?_ ?_
        · obtain ⟨hc2, hg2⟩ := chain_add (k := k) hch hgd (by simpa using c0)
          simp -dsimp only [Vm.E, List.lookup, Nat.reduceAdd, Nat.reduceBEq, Int.reduceBNe, Int.reduceBEq, Bool.true_beq, Bool.false_beq, Vm.S, Nat.reduceLeDiff, q7]
          refine bs_intro zr72 (by decide) (by decide) rfl rfl (by simp [solid, AV.cells]) ?_
          simp -dsimp only [Vm.E, List.lookup, Nat.reduceAdd, Nat.reduceBEq, Int.reduceBNe, Int.reduceBEq, Bool.true_beq, Bool.false_beq, Vm.S, Nat.reduceLeDiff, q7]
          refine app_sl Tryz.underlying70 (by simp [AV.cells]) (by simp only [List.length_map, List.length_cons, List.length_nil]; omega) ?_
          simp -dsimp only [Vm.E, List.lookup, Nat.reduceAdd, Nat.reduceBEq, Int.reduceBNe, Int.reduceBEq, Bool.true_beq, Bool.false_beq, Vm.S, Nat.reduceLeDiff, q7]
          refine kept_intro ⟨l.length - (i + 1), by omega, _, le_mk [(3, .ptr V.iv 0), (4, .own true 72 5 ((d ++ [k]).map d5Av)), (14, .sl 5 (l.map d5Av)), (15, .v (.int .i64 l.length)), (16, .v (.int .i64 (i + 1 : Nat)))] ?_, i + 1, _, d ++ [k], by omega, hV2, by omega, by simp only [List.length_append, List.length_cons, List.length_nil]; omega, by rw [List.reverse_append]; exact hc2, hg2, rfl⟩
          simp only [List.forall_mem_cons, List.not_mem_nil, false_imp_iff, implies_true, and_true, hw, List.map_append, List.map_cons, List.map_nil, d5Av, lnCells]
          try simp -dsimp only [Vm.E, List.lookup, Nat.reduceAdd, Nat.reduceBEq, Int.reduceBNe, Int.reduceBEq, Bool.true_beq, Bool.false_beq, Vm.S, Nat.reduceLeDiff, q7, hw, List.map_append, List.map_cons, List.map_nil, d5Av, lnCells]
          repeat' first | exact Fg.refl _ | exact Fg.nil _ _ _ (by decide) | refine And.intro ?_ ?_
      · clear hcc
        obtain ⟨r, hr⟩ : ∃ r, r = d.reverse := ⟨_, rfl⟩
        rw [← hr] at hch
        have hrl : r.length ≤ 60 := by rw [hr, List.length_reverse]; omega
        have hrl2 : r.length = d.length := by rw [hr, List.length_reverse]
        have hrm : (d.map d5Av).reverse = r.map d5Av := by rw [hr, List.map_reverse]
        have hd5 : ∀ x ∈ d.map d5Av, ∃ a, x = .agg a ∧ a.length = 5 := fun x hx => by obtain ⟨k, -, rfl⟩ := List.mem_map.1 hx; exact ⟨_, rfl, rfl⟩
        have hd5' : ∀ x ∈ r.map d5Av, x.cells.length = 5 := fun x hx => by obtain ⟨k, -, rfl⟩ := List.mem_map.1 hx; rfl
        simp -dsimp only [Vm.E, List.lookup, Nat.reduceAdd, Nat.reduceBEq, Int.reduceBNe, Int.reduceBEq, Bool.true_beq, Bool.false_beq, Vm.S, Nat.reduceLeDiff, q7]
        refine call_in _ _ _ ?_
        simp -dsimp only [Vm.E, List.lookup, Nat.reduceAdd, Nat.reduceBEq, Int.reduceBNe, Int.reduceBEq, Bool.true_beq, Bool.false_beq, Vm.S, Nat.reduceLeDiff, q7, callI_eq, ownSl_own, ownSl_alias]
        refine callI_tup (S := orS revSpecDo5 revNilDo5) (fun xs' => xs' = r.map d5Av) rfl
          (fun xs' hx => ?_) (fun hx => ⟨?_, fun Q' hq' => .inr ⟨rfl, hq'⟩⟩) (fun c hc Q' hq' => .inl ⟨d.map d5Av, _, c, 72, rfl, rfl, hd5, by rw [List.length_map]; omega, ?_⟩) (fun xs' hx => ?_)
        · subst hx
          exact ⟨fun x hx => by rw [← hrm] at hx; simpa using hx, by rw [← hrm, List.length_reverse]⟩
        · have hdn : d = [] := List.map_eq_nil_iff.1 hx
          rw [hr, hdn]; rfl
        · rw [hrm]
          refine hq' _ _ rfl ?_
          rw [List.take_of_length_le]
          rw [flat_length hd5']
          exact Nat.le_refl _
        · subst hx
          clear hrm hd5 hd5' hr
          simp -dsimp only [Vm.E, List.lookup, Nat.reduceAdd, Nat.reduceBEq, Int.reduceBNe, Int.reduceBEq, Bool.true_beq, Bool.false_beq, Vm.S, Nat.reduceLeDiff, q7, List.length_map]
          refine awp_loop (fun m s h2 => ∃ (i : Nat) (f : Fun), i + m = r.length ∧ isView h2 V f ∧ f.n ≤ 60 + i ∧ ChainR (r.drop i) f ∧ s = mk [(3, .ptr V.iv 0), (4, .own true 72 5 (r.map d5Av)), (34, .alias 4), (35, .v (.int .i64 r.length)), (36, .v (.int .i64 (i : Nat)))])
            r.length _ (le_mk _ ?_) ⟨0, f, by omega, hV, by omega, hch, rfl⟩ ?_
          · simp only [List.forall_mem_cons, List.not_mem_nil, false_imp_iff, implies_true, and_true]
            try simp -dsimp only [Vm.E, List.lookup, Nat.reduceAdd, Nat.reduceBEq, Int.reduceBNe, Int.reduceBEq, Bool.true_beq, Bool.false_beq, Vm.S, Nat.reduceLeDiff, q7]
            repeat' first | exact Fg.refl _ | exact Fg.nil _ _ _ (by decide) | refine And.intro ?_ ?_
          · clear hV hfn hch hgd hi
            rintro m s h2 ⟨i, f, hi, hV, hfn, hch, rfl⟩
            simp -dsimp only [Vm.E, List.lookup, Nat.reduceAdd, Nat.reduceBEq, Int.reduceBNe, Int.reduceBEq, Bool.true_beq, Bool.false_beq, Vm.S, Nat.reduceLeDiff, q7]
            refine cond_intro (fun hcc => ?_) (fun hcc => ?_)
            · have hlt : i < r.length := by have := of_decide_eq_true hcc; omega
              have hw : IntKind.i64.wrap ((i : Int) + 1) = ((i + 1 : Nat) : Int) := by rw [wrap_i64 (by omega) (by omega)]; simp
              have hget : (r.map d5Av)[i]? = some (d5Av r[i]) := by simp [hlt]
              rw [List.drop_eq_getElem_cons hlt] at hch
              generalize r[i] = k at hget hch
              obtain ⟨hb0, hbc⟩ := chain_back hch
              have hnn := balAdd_n f (dkKey k) (w64 (0 - k.2.amt))
              simp -dsimp only [Vm.E, List.lookup, Nat.reduceAdd, Nat.reduceBEq, Int.reduceBNe, Int.reduceBEq, Bool.true_beq, Bool.false_beq, Vm.S, Nat.reduceLeDiff, q7]
              refine idxO_intro (by omega) (by simp; omega) ?_
              simp -dsimp only [Vm.E, List.lookup, Nat.reduceAdd, Nat.reduceBEq, Int.reduceBNe, Int.reduceBEq, Bool.true_beq, Bool.false_beq, Vm.S, Nat.reduceLeDiff, q7, Int.toNat_natCast]
              refine eltA_intro hget ?_
              simp only [d5Av, lnCells]
              simp -dsimp only [Vm.E, List.lookup, Nat.reduceAdd, Nat.reduceBEq, Int.reduceBNe, Int.reduceBEq, Bool.true_beq, Bool.false_beq, Vm.S, Nat.reduceLeDiff, q7, AV.cells, List.drop_zero]
              refine call_one (S := balAddSpec) rfl _ GaL.rfl ⟨V, f, k.1, ⟨k.2.fund, k.2.obj, k.2.node, w64 (0 - k.2.amt)⟩, rfl, hV, fun h3 hV3 _ => ?_⟩
              have ek : balK k.1 k.2.fund k.2.obj = dkKey k := rfl
              simp only [ek, hb0] at hV3 ⊢
              simp -dsimp only [Vm.E, List.lookup, Nat.reduceAdd, Nat.reduceBEq, Int.reduceBNe, Int.reduceBEq, Bool.true_beq, Bool.false_beq, Vm.S, Nat.reduceLeDiff, q7]
              refine kept_intro ⟨r.length - (i + 1), by omega, _, le_mk [(3, .ptr V.iv 0), (4, .own true 72 5 (r.map d5Av)), (34, .alias 4), (35, .v (.int .i64 r.length)), (36, .v (.int .i64 (i + 1 : Nat)))] ?_, i + 1, _, by omega, hV3, by omega, hbc, rfl⟩
              simp only [List.forall_mem_cons, List.not_mem_nil, false_imp_iff, implies_true, and_true, hw]
              try simp -dsimp only [Vm.E, List.lookup, Nat.reduceAdd, Nat.reduceBEq, Int.reduceBNe, Int.reduceBEq, Bool.true_beq, Bool.false_beq, Vm.S, Nat.reduceLeDiff, q7, hw]
              repeat' first | exact Fg.refl _ | exact Fg.nil _ _ _ (by decide) | refine And.intro ?_ ?_
            · have hge : ¬ i < r.length := by have := of_decide_eq_false hcc; omega
              rw [List.drop_of_length_le (by omega)] at hch
              simp -dsimp only [Vm.E, List.lookup, Nat.reduceAdd, Nat.reduceBEq, Int.reduceBNe, Int.reduceBEq, Bool.true_beq, Bool.false_beq, Vm.S, Nat.reduceLeDiff, q7]
              refine call_one (S := scanSpec) rfl _ (.cons (.refl _) (.cons (.nil 1) .nil)) ⟨V, f, [], rfl, by simp, hV, by omega, fun l2 h3 hsc hln hV1 hs1 => ?_⟩
              obtain rfl := scan_nil hsc hch
              have k0 : (((0 : Nat) : Int) == 0) = true := rfl
              simp -dsimp only [Vm.E, List.lookup, Nat.reduceAdd, Nat.reduceBEq, Int.reduceBNe, Int.reduceBEq, Bool.true_beq, Bool.false_beq, Vm.S, Nat.reduceLeDiff, q7, List.map_nil, List.length_nil, k0]
              refine call_one (S := trueSpec) rfl _ GaL.rfl ⟨rfl, fun h2 => ?_⟩
              simp -dsimp only [Vm.E, List.lookup, Nat.reduceAdd, Nat.reduceBEq, Int.reduceBNe, Int.reduceBEq, Bool.true_beq, Bool.false_beq, Vm.S, Nat.reduceLeDiff, q7]
              exact hq _
  · simp -dsimp only [Vm.E, List.lookup, Nat.reduceAdd, Nat.reduceBEq, Int.reduceBNe, Int.reduceBEq, Bool.true_beq, Bool.false_beq, Vm.S, Nat.reduceLeDiff, q7]
    refine call_one (S := trueSpec) rfl _ GaL.rfl ⟨rfl, fun h2 => ?_⟩
    simp -dsimp only [Vm.E, List.lookup, Nat.reduceAdd, Nat.reduceBEq, Int.reduceBNe, Int.reduceBEq, Bool.true_beq, Bool.false_beq, Vm.S, Nat.reduceLeDiff, q7]
    exact hq _
theorem isA_dk {y : AV} (h : IsA (.agg [.int .i64, .agg [.int .i64, .int .i64, .int .i64, .int .i64]]) y) : ∃ k : Dk, True ∧ y = d5Av k := by
  simp only [IsA, IsAll] at h
  obtain ⟨ys, ⟨y1, r1, rfl, h1, y2, r2, rfl, h2, rfl⟩, rfl⟩ := h
  obtain ⟨a, -, rfl⟩ := isA_int (by simpa only [IsA] using h1)
  obtain ⟨zs, ⟨z1, s1, rfl, q1, z2, s2, rfl, q2, z3, s3, rfl, q3, z4, s4, rfl, q4, rfl⟩, rfl⟩ := h2
  obtain ⟨b1, -, rfl⟩ := isA_int (by simpa only [IsA] using q1)
  obtain ⟨b2, -, rfl⟩ := isA_int (by simpa only [IsA] using q2)
  obtain ⟨b3, -, rfl⟩ := isA_int (by simpa only [IsA] using q3)
  obtain ⟨b4, -, rfl⟩ := isA_int (by simpa only [IsA] using q4)
  exact ⟨(a, ⟨b1, b2, b3, b4⟩), trivial, rfl⟩
theorem back_args {y0 : AV} (i0 : IsA (.sl (.agg [.int .i64, .agg [.int .i64, .int .i64, .int .i64, .int .i64]])) y0) {Q : AV → Heap → Prop} (hq : ∀ h', Q (.v (.bool true)) h') : backSpec [y0] [] Q := by
  obtain ⟨l, hl, rfl, -⟩ := isA_list (fun _ => True) d5Av (fun y hy => isA_dk hy) i0
  exact ⟨l, hl, rfl, hq⟩
end Go.Proofs.Lx
/- Years: the reference's list; two lists of numbers. -/
set_option linter.unusedSimpArgs false
set_option linter.unusedVariables false
namespace Go.Proofs.Lx
open Go.Vm
attribute [local irreducible] awpArr awpBin awpMake awpAppend awpCvX awpStrOf awpBinX awpSlice awpBS awpStore awpAlloc awpCopy awpIndex awpDraw awpIdxX awpFa awpField awpLookup awpUpdate awpDelete awpClear awpRange awpNext awpEntry awpBuild awpClearS awpIdxL awpTree
theorem num4_cons (t : UInt8) (r : List UInt8) (i : Nat) (h : 4 * i + 4 ≤ r.length) : getRes (t :: r) ((1 + 4 * i : Nat) : Int) 4 = [.v (.int .i64 (num4 r i)), .v (.int .i64 0)] := by
  unfold getRes num4
  rw [if_neg (by simp [sized]; omega), if_neg (by simp only [List.length_cons]; omega), Int.toNat_natCast]
  rw [show 1 + 4 * i = (4 * i) + 1 by omega, List.drop_succ_cons]
  rfl
theorem does_rSplit : Does Tryz.prog 185 splitSpec := by
  refine does_of_awpO 1 (good_cons does_refGet good_nil) Tryz.func185 rfl (by decide +kernel) (by decide +kernel) ?_
  rintro args h Q ⟨b, hl, rfl, hq0, hq⟩
  refine ⟨by simp [Tryz.f185], ?_⟩
  rw [awpFuncO_some (by rfl)]
  simp -dsimp only [Vm.E, List.lookup, Nat.reduceAdd, Nat.reduceBEq, Int.reduceBNe, Int.reduceBEq, Bool.true_beq, Bool.false_beq, Tryz.underlying45]
  cases b with
  | nil =>
    have c1 : decide (((0 : Nat) : Int) < 1) = true := rfl
    simp -dsimp only [Vm.E, List.lookup, Nat.reduceAdd, Nat.reduceBEq, Int.reduceBNe, Int.reduceBEq, Bool.true_beq, Bool.false_beq, Vm.S, Nat.reduceLeDiff, q185, c1]
    exact hq0 rfl
  | cons t r =>
    have c1 : decide (((r.length + 1 : Nat) : Int) < 1) = false := decide_eq_false (by omega)
    simp -dsimp only [Vm.E, List.lookup, Nat.reduceAdd, Nat.reduceBEq, Int.reduceBNe, Int.reduceBEq, Bool.true_beq, Bool.false_beq, Vm.S, Nat.reduceLeDiff, q185, c1]
    unfold splitOf at hq0 hq
    by_cases d2 : r.length ≤ 28
    · have c2 : decide (((r.length + 1 : Nat) : Int) > 29) = false := decide_eq_false (by omega)
      simp -dsimp only [Vm.E, List.lookup, Nat.reduceAdd, Nat.reduceBEq, Int.reduceBNe, Int.reduceBEq, Bool.true_beq, Bool.false_beq, Vm.S, Nat.reduceLeDiff, q185, c2]
      refine rem_intro (by decide) ?_
      have e2 : ((r.length + 1 : Nat) : Int).tmod 4 = (((r.length + 1) % 4 : Nat) : Int) := by rw [Int.tmod_eq_emod_of_nonneg (by omega)]; omega
      simp only [e2]
      by_cases d1 : r.length % 4 = 0
      · have c3 : ((((r.length + 1) % 4 : Nat) : Int) != 1) = false := by
          have : (r.length + 1) % 4 = 1 := by omega
          rw [this]; rfl
        have hq' := hq t (numsK r (r.length / 4)) (if_pos ⟨d1, d2⟩)
        clear hq hq0
        obtain ⟨k, hk⟩ : ∃ k, r.length = 4 * k := ⟨r.length / 4, by omega⟩
        rw [show r.length / 4 = k by omega] at hq'
        simp -dsimp only [Vm.E, List.lookup, Nat.reduceAdd, Nat.reduceBEq, Int.reduceBNe, Int.reduceBEq, Bool.true_beq, Bool.false_beq, Vm.S, Nat.reduceLeDiff, q185, c3]
        refine awp_loop (fun m s h' => ∃ i : Nat, i + m = k ∧ h' = h ∧ s = mk [(0, .sl 1 ((t :: r).map encB)), (5, .own true 3 1 ((numsK r i).map encI)), (6, .v (.int .i64 (1 + 4 * i : Nat)))])
          k _ (le_mk _ ?_) ⟨0, by omega, rfl, rfl⟩ ?_
        · simp only [List.forall_mem_cons, List.not_mem_nil, false_imp_iff, implies_true, and_true]
          simp -dsimp only [Vm.E, List.lookup, Nat.reduceAdd, Nat.reduceBEq, Int.reduceBNe, Int.reduceBEq, Bool.true_beq, Bool.false_beq]
          exact ⟨.refl _, .nil _ _ _ (by decide), .refl _⟩
        · rintro m s h' ⟨i, hi, rfl, rfl⟩
          simp -dsimp only [Vm.E, List.lookup, Nat.reduceAdd, Nat.reduceBEq, Int.reduceBNe, Int.reduceBEq, Bool.true_beq, Bool.false_beq, Tryz.underlying45]
          refine cond_intro (fun hc => ?_) (fun hc => ?_)
          · have hlt : i < k := by have := of_decide_eq_true hc; simp only [List.length_cons, List.length_map] at this; omega
            simp -dsimp only [Vm.E, List.lookup, Nat.reduceAdd, Nat.reduceBEq, Int.reduceBNe, Int.reduceBEq, Bool.true_beq, Bool.false_beq]
            refine call_one (S := getSpec) rfl _ GaL.rfl ⟨t :: r, ((1 + 4 * i : Nat) : Int), 4, hl, by omega, rfl, ?_⟩
            simp only [num4_cons t r i (by omega)]
            simp -dsimp only [Vm.E, List.lookup, Nat.reduceAdd, Nat.reduceBEq, Int.reduceBNe, Int.reduceBEq, Bool.true_beq, Bool.false_beq, es41]
            refine bs_intro zr3 (by decide) (by decide) rfl rfl (by simp [solid, AV.cells]) ?_
            simp -dsimp only [Vm.E, List.lookup, Nat.reduceAdd, Nat.reduceBEq, Int.reduceBNe, Int.reduceBEq, Bool.true_beq, Bool.false_beq, append_own ei41]
            refine app_sl Tryz.underlying41 (by simp [AV.cells]) (by simp [numsK]; omega) ?_
            simp -dsimp only [Vm.E, List.lookup, Nat.reduceAdd, Nat.reduceBEq, Int.reduceBNe, Int.reduceBEq, Bool.true_beq, Bool.false_beq]
            refine kept_intro ⟨k - (i + 1), by omega, _, le_mk [(0, .sl 1 ((t :: r).map encB)), (5, .own true 3 1 ((numsK r (i + 1)).map encI)), (6, .v (.int .i64 (1 + 4 * (i + 1) : Nat)))] ?_, i + 1, by omega, rfl, rfl⟩
            have ew : IntKind.i64.wrap (((1 + 4 * i : Nat) : Int) + 4) = ((1 + 4 * (i + 1) : Nat) : Int) := by rw [wrap_i64 (by omega) (by omega)]; omega
            have en : (numsK r i).map encI ++ [AV.v (.int .i64 (num4 r i))] = (numsK r (i + 1)).map encI := by simp [numsK, List.range_succ, encI]
            simp only [List.forall_mem_cons, List.not_mem_nil, false_imp_iff, implies_true, and_true]
            simp -dsimp only [Vm.E, List.lookup, Nat.reduceAdd, Nat.reduceBEq, Int.reduceBNe, Int.reduceBEq, Bool.true_beq, Bool.false_beq, ew, en]
            exact ⟨.refl _, .refl _, .refl _⟩
          · have hge : ¬ i < k := by have := of_decide_eq_false hc; simp only [List.length_cons, List.length_map] at this; omega
            obtain rfl : i = k := by omega
            simp -dsimp only [Vm.E, List.lookup, Nat.reduceAdd, Nat.reduceBEq, Int.reduceBNe, Int.reduceBEq, Bool.true_beq, Bool.false_beq, es45, as45]
            refine idx_bytes (t :: r) 0 (by simp) ?_
            simp -dsimp only [Vm.E, List.lookup, Nat.reduceAdd, Nat.reduceBEq, Int.reduceBNe, Int.reduceBEq, Bool.true_beq, Bool.false_beq, of5, Tryz.results185]
            exact hq'
      · have c3 : ((((r.length + 1) % 4 : Nat) : Int) != 1) = true := by simp; omega
        simp -dsimp only [Vm.E, List.lookup, Nat.reduceAdd, Nat.reduceBEq, Int.reduceBNe, Int.reduceBEq, Bool.true_beq, Bool.false_beq, Vm.S, Nat.reduceLeDiff, q185, c3]
        exact hq0 (if_neg (by omega))
    · have c2 : decide (((r.length + 1 : Nat) : Int) > 29) = true := decide_eq_true (by omega)
      simp -dsimp only [Vm.E, List.lookup, Nat.reduceAdd, Nat.reduceBEq, Int.reduceBNe, Int.reduceBEq, Bool.true_beq, Bool.false_beq, Vm.S, Nat.reduceLeDiff, q185, c2]
      exact hq0 (if_neg (by omega))
def ofOf (key : List UInt8) (tag : UInt8) (many : Int) : Option (List Int) := match splitOf key with
  | some (t, l) => if t = tag ∧ (l.length : Int) = many then some l else none
  | none => none
def rOfSpec : Vm.Spec := fun args h Q => ∃ (b : List UInt8) (tag : UInt8) (many : Int), b.length ≤ 4611686018427387904 ∧ args = [.sl 1 (b.map encB), .v (.int .u8 tag.toNat), .v (.int .i64 many)] ∧
  (ofOf b tag many = none → Q (.tup [.v (.slice none 0 0), .v (.bool false)]) h) ∧ (∀ l, ofOf b tag many = some l → Q (.otup 0 true 3 1 (l.map encI) [.any, .v (.bool true)]) h)
theorem does_rOf : Does Tryz.prog 127 rOfSpec := by
  refine does_of_awpO 0 (good_cons does_rSplit good_nil) Tryz.func127 rfl (by decide +kernel) (by decide +kernel) ?_
  rintro args h Q ⟨b, tag, many, hl, rfl, hq0, hq⟩
  refine ⟨by simp [Tryz.f127], ?_⟩
  rw [awpFuncO_some (by rfl)]
  unfold ofOf at hq0 hq
  simp -dsimp only [Vm.E, List.lookup, Nat.reduceAdd, Nat.reduceBEq, Int.reduceBNe, Int.reduceBEq, Bool.true_beq, Bool.false_beq]
  refine call_one (S := splitSpec) rfl _ GaL.rfl ⟨b, hl, rfl, fun hs => ?_, fun t l hs => ?_⟩
  · rw [hs] at hq0
    unfold noKey
    simp -dsimp only [Vm.E, List.lookup, Nat.reduceAdd, Nat.reduceBEq, Int.reduceBNe, Int.reduceBEq, Bool.true_beq, Bool.false_beq, Tryz.results127]
    exact hq0 rfl
  · rw [hs] at hq0 hq
    simp -dsimp only [Vm.E, List.lookup, Nat.reduceAdd, Nat.reduceBEq, Int.reduceBNe, Int.reduceBEq, Bool.true_beq, Bool.false_beq]
    by_cases d1 : t = tag
    · subst d1
      simp -dsimp only [Vm.E, List.lookup, Nat.reduceAdd, Nat.reduceBEq, Int.reduceBNe, Int.reduceBEq, Bool.true_beq, Bool.false_beq, bne_self_eq_false, Tryz.underlying41]
      by_cases d2 : (l.length : Int) = many
      · have c2 : ((l.length : Int) != many) = false := by simp [d2]
        simp -dsimp only [Vm.E, List.lookup, Nat.reduceAdd, Nat.reduceBEq, Int.reduceBNe, Int.reduceBEq, Bool.true_beq, Bool.false_beq, Vm.S, Nat.reduceLeDiff, q127, c2]
        exact hq l (if_pos ⟨rfl, d2⟩)
      · have c2 : ((l.length : Int) != many) = true := by simp [d2]
        simp -dsimp only [Vm.E, List.lookup, Nat.reduceAdd, Nat.reduceBEq, Int.reduceBNe, Int.reduceBEq, Bool.true_beq, Bool.false_beq, Vm.S, Nat.reduceLeDiff, q127, c2]
        exact hq0 (if_neg fun hc => d2 hc.2)
    · have c1 : ((t.toNat : Int) != tag.toNat) = true := by
        simp only [bne_iff_ne, ne_eq]
        exact fun e => d1 (UInt8.toNat_inj.1 (by omega))
      simp -dsimp only [Vm.E, List.lookup, Nat.reduceAdd, Nat.reduceBEq, Int.reduceBNe, Int.reduceBEq, Bool.true_beq, Bool.false_beq, Vm.S, Nat.reduceLeDiff, q127, c1]
      exact hq0 (if_neg fun hc => d1 hc.1)
def eqIntSpec : Vm.Spec := fun args h Q => ∃ l l' : List Int, l.length ≤ 9223372036854775807 ∧ args = [.sl 1 (l.map encI), .sl 1 (l'.map encI)] ∧ Q (.v (.bool (decide (l = l')))) h
theorem does_eqInt : Does Tryz.prog 50 eqIntSpec := by
  refine does_of_awp good_nil Tryz.func50 rfl (by decide +kernel) (by decide +kernel) ?_
  rintro args h Q ⟨l, l', hl, rfl, hq⟩
  refine ⟨by simp [Tryz.f50], ?_⟩
  rw [awpFunc_some (by rfl)]
  simp -dsimp only [Vm.E, List.lookup, Nat.reduceAdd, Nat.reduceBEq, Int.reduceBNe, Int.reduceBEq, Bool.true_beq, Bool.false_beq, Tryz.underlying41]
  by_cases hlen : l.length = l'.length
  · have c1 : ((l.length : Int) != l'.length) = false := by simp [hlen]
    simp -dsimp only [Vm.E, List.lookup, Nat.reduceAdd, Nat.reduceBEq, Int.reduceBNe, Int.reduceBEq, Bool.true_beq, Bool.false_beq, c1, Tryz.underlying41]
    refine awp_loop (fun m s h' => ∃ i : Nat, i + m = l.length ∧ h' = h ∧ (∀ j (hj : j < l.length), j < i → l[j] = l'[j]'(by omega)) ∧ s = mk [(0, .sl 1 (l.map encI)), (1, .sl 1 (l'.map encI)), (12, .v (.int .i64 l.length)), (13, .v (.int .i64 i))])
      l.length _ (le_mk _ ?_) ⟨0, by omega, rfl, fun j _ hj => by omega, rfl⟩ ?_
    · simp only [List.forall_mem_cons, List.not_mem_nil, false_imp_iff, implies_true, and_true]
      simp -dsimp only [Vm.E, List.lookup, Nat.reduceAdd, Nat.reduceBEq, Int.reduceBNe, Int.reduceBEq, Bool.true_beq, Bool.false_beq]
      exact ⟨.refl _, .refl _, .refl _, .refl _⟩
    · rintro m s h' ⟨i, hi, rfl, hb, rfl⟩
      simp -dsimp only [Vm.E, List.lookup, Nat.reduceAdd, Nat.reduceBEq, Int.reduceBNe, Int.reduceBEq, Bool.true_beq, Bool.false_beq]
      refine cond_intro (fun hcc => ?_) (fun hcc => ?_)
      · have hlt : i < l.length := by have := of_decide_eq_true hcc; omega
        have hlt' : i < l'.length := by omega
        obtain ⟨x, hx⟩ : ∃ x, l[i] = x := ⟨_, rfl⟩
        obtain ⟨y, hy⟩ : ∃ y, l'[i] = y := ⟨_, rfl⟩
        have hw : IntKind.i64.wrap ((i : Int) + 1) = ((i + 1 : Nat) : Int) := by rw [wrap_i64 (by omega) (by omega)]; simp
        simp -dsimp only [Vm.E, List.lookup, Nat.reduceAdd, Nat.reduceBEq, Int.reduceBNe, Int.reduceBEq, Bool.true_beq, Bool.false_beq]
        refine draw_cont [] (.take 0 (.take 1 (.take 2 (.take 3 (.take 4 (.take 5 (.take 6 (.take 7 (.take 8 (.done)))))))))) (fun s hx => hx = h' ∧ s 24 = .v (.bool (x != y)) ∧ s 0 = .sl 1 (l.map encI) ∧ s 1 = .sl 1 (l'.map encI) ∧ s 12 = .v (.int .i64 l.length) ∧ s 13 = .v (.int .i64 i)) (by kernel_rfl) (by kernel_rfl) (by kernel_rfl) (by decide) ?_ ?_
        · simp -dsimp only [Vm.E, List.lookup, Nat.reduceAdd, Nat.reduceBEq, Int.reduceBNe, Int.reduceBEq, Bool.true_beq, Bool.false_beq, es41, as41]
          refine idx_ints l i hlt ?_
          simp only [hx]
          simp -dsimp only [Vm.E, List.lookup, Nat.reduceAdd, Nat.reduceBEq, Int.reduceBNe, Int.reduceBEq, Bool.true_beq, Bool.false_beq, of3, es41, as41]
          refine idx_ints l' i hlt' ?_
          simp only [hy]
          simp -dsimp only [Vm.E, List.lookup, Nat.reduceAdd, Nat.reduceBEq, Int.reduceBNe, Int.reduceBEq, Bool.true_beq, Bool.false_beq, of3]
        · rintro s hx2 ⟨rfl, e24, e0, e1, e12, e13⟩
          by_cases he : x = y
          · have c2 : (x != y) = false := by simp [he]
            rw [c2] at e24
            simp -dsimp only [Vm.E, List.lookup, Nat.reduceAdd, Nat.reduceBEq, Int.reduceBNe, Int.reduceBEq, Bool.true_beq, Bool.false_beq, e24, e0, e1, e12, e13, hw]
            refine kept_intro ⟨l.length - (i + 1), by omega, _, le_mk [(0, .sl 1 (l.map encI)), (1, .sl 1 (l'.map encI)), (12, .v (.int .i64 l.length)), (13, .v (.int .i64 (i + 1 : Nat)))] ?_, i + 1, by omega, rfl, fun j hj hj2 => ?_, rfl⟩
            · simp only [List.forall_mem_cons, List.not_mem_nil, false_imp_iff, implies_true, and_true]
              simp -dsimp only [Vm.E, List.lookup, Nat.reduceAdd, Nat.reduceBEq, Int.reduceBNe, Int.reduceBEq, Bool.true_beq, Bool.false_beq, e24, e0, e1, e12, e13]
              exact ⟨.refl _, .refl _, .refl _, .refl _⟩
            · by_cases hji : j = i
              · subst hji; rw [hx, hy]; exact he
              · exact hb j hj (by omega)
          · have c2 : (x != y) = true := by simp [he]
            rw [c2] at e24
            have hne : ¬ l = l' := fun e => he (by subst e; rw [← hx, ← hy])
            rw [decide_eq_false hne] at hq
            simp -dsimp only [Vm.E, List.lookup, Nat.reduceAdd, Nat.reduceBEq, Int.reduceBNe, Int.reduceBEq, Bool.true_beq, Bool.false_beq, e24, e0, e1, e12, e13, Tryz.results50]
            exact hq
      · have hge : ¬ i < l.length := by have := of_decide_eq_false hcc; omega
        have he : l = l' := List.ext_getElem hlen fun j h1 h2 => hb j h1 (by omega)
        rw [decide_eq_true he] at hq
        simp -dsimp only [Vm.E, List.lookup, Nat.reduceAdd, Nat.reduceBEq, Int.reduceBNe, Int.reduceBEq, Bool.true_beq, Bool.false_beq, Tryz.results50]
        exact hq
  · have c1 : ((l.length : Int) != l'.length) = true := by simp; omega
    rw [decide_eq_false fun e => hlen (by rw [e])] at hq
    simp -dsimp only [Vm.E, List.lookup, Nat.reduceAdd, Nat.reduceBEq, Int.reduceBNe, Int.reduceBEq, Bool.true_beq, Bool.false_beq, c1, Tryz.results50]
    exact hq
def rAllSpec : Vm.Spec := fun args h Q => ∃ (R : RId) (f : Fun), args = [.ptr R.iv 0] ∧ isRef h R f ∧ f.n ≤ 536870912 ∧ ∀ l, ScanIs f [89] l → l.length ≤ f.n → Q (.own true 3 1 ((allY f l).map encI)) h
set_option maxRecDepth 20000 in
set_option maxHeartbeats 1000000 in
theorem does_rAll : Does Tryz.prog 51 rAllSpec := by
  refine does_of_awp (good_cons does_rScan (good_cons does_rOf (good_cons does_rState good_nil))) Tryz.func51 rfl (by decide +kernel) (by decide +kernel) ?_
  rintro args h Q ⟨R, f, rfl, hR, hn, hq⟩
  refine ⟨by simp [Tryz.f51], ?_⟩
  rw [awpFunc_some (by rfl)]
  simp -dsimp only [Vm.E, List.lookup, Nat.reduceAdd, Nat.reduceBEq, Int.reduceBNe, Int.reduceBEq, Bool.true_beq, Bool.false_beq, Vm.S, Nat.reduceLeDiff, es45]
  refine bs_intro zr5 (by decide) (by decide) rfl rfl (by simp [solid, AV.cells]) ?_
  simp -dsimp only [Vm.E, List.lookup, Nat.reduceAdd, Nat.reduceBEq, Int.reduceBNe, Int.reduceBEq, Bool.true_beq, Bool.false_beq, Vm.S, Nat.reduceLeDiff]
  refine call_one (S := rScanSpec) rfl _ GaL.rfl ⟨R, f, [89], rfl, by simp, hR, hn, fun l hsc hln => ?_⟩
  simp -dsimp only [Vm.E, List.lookup, Nat.reduceAdd, Nat.reduceBEq, Int.reduceBNe, Int.reduceBEq, Bool.true_beq, Bool.false_beq]
  refine awp_loop (fun m s h' => ∃ i : Nat, i + m = l.length ∧ h' = h ∧ s = mk [(0, .ptr R.iv 0), (3, .own true 3 1 ((allY f (l.take i)).map encI)), (4, .own true 47 2 (l.map kvAv)), (5, .v (.int .i64 i))])
    l.length _ (le_mk _ ?_) ⟨0, by omega, rfl, rfl⟩ ?_
  · simp only [List.forall_mem_cons, List.not_mem_nil, false_imp_iff, implies_true, and_true]
    simp -dsimp only [Vm.E, List.lookup, Nat.reduceAdd, Nat.reduceBEq, Int.reduceBNe, Int.reduceBEq, Bool.true_beq, Bool.false_beq]
    exact ⟨.refl _, .nil _ _ _ (by decide), .refl _, .refl _⟩
  · rintro m s h' ⟨i, hi, rfl, rfl⟩
    simp -dsimp only [Vm.E, List.lookup, Nat.reduceAdd, Nat.reduceBEq, Int.reduceBNe, Int.reduceBEq, Bool.true_beq, Bool.false_beq, Tryz.underlying40, List.length_map]
    refine cond_intro (fun hcc => ?_) (fun hcc => ?_)
    · have hlt : i < l.length := by have := of_decide_eq_true hcc; omega
      have hw : IntKind.i64.wrap ((i : Int) + 1) = ((i + 1 : Nat) : Int) := by rw [wrap_i64 (by omega) (by omega)]; simp
      have hget : (l.map kvAv)[i]? = some (kvAv l[i]) := by simp [hlt]
      have est : allY f (l.take (i + 1)) = allY f (l.take i) ++ (yearOf f l[i]).toList := by
        unfold allY
        rw [List.take_succ_eq_append_getElem hlt, List.filterMap_append]
        congr 1
      have hal : (allY f (l.take i)).length ≤ i := by
        unfold allY
        exact Nat.le_trans (List.length_filterMap_le ..) (by rw [List.length_take]; omega)
      have hin := (hsc.2 l[i].1 l[i].2).1 (List.getElem_mem hlt)
      have hkl : l[i].1.length ≤ 32 := (hR.len hin.1).1
      have hpre := hin.2
      generalize l[i] = p at hget est hkl hpre
      obtain ⟨k, v⟩ := p
      have hkl : k.length ≤ 32 := hkl
      have htag : ∀ t l', splitOf k = some (t, l') → t = 89 := fun t l' hs => by
        unfold splitOf at hs
        split at hs
        · cases hs
        · split at hs
          · cases hs
            have hpre' : 89 = t := by simpa [List.isPrefixOf] using hpre
            exact hpre'.symm
          · cases hs
      unfold yearOf at est
      simp only at est
      simp -dsimp only [Vm.E, List.lookup, Nat.reduceAdd, Nat.reduceBEq, Int.reduceBNe, Int.reduceBEq, Bool.true_beq, Bool.false_beq, Vm.S, Nat.reduceLeDiff, es40, as40]
      refine idxO_intro (by omega) (by simp; omega) ?_
      simp -dsimp only [Vm.E, List.lookup, Nat.reduceAdd, Nat.reduceBEq, Int.reduceBNe, Int.reduceBEq, Bool.true_beq, Bool.false_beq, Vm.S, Nat.reduceLeDiff, Int.toNat_natCast, fo47_0]
      refine eltA_intro hget ?_
      simp only [kvAv]
      simp -dsimp only [Vm.E, List.lookup, Nat.reduceAdd, Nat.reduceBEq, Int.reduceBNe, Int.reduceBEq, Bool.true_beq, Bool.false_beq, Vm.S, Nat.reduceLeDiff, AV.cells, List.drop_zero, of45]
      refine call_one (S := rOfSpec) rfl _ GaL.rfl ⟨k, 89, 1, by omega, rfl, fun hs => ?_, fun l' hs => ?_⟩
      · have est : allY f (l.take (i + 1)) = allY f (l.take i) := by
          unfold ofOf at hs
          rw [est]
          cases hx : splitOf k with
          | none => simp
          | some q =>
            obtain ⟨t, l'⟩ := q
            rw [hx] at hs
            have ht := htag t l' hx
            simp only [ht, true_and] at hs
            split
            · rename_i h2
              cases h2
              simp at hs
            · simp
        simp -dsimp only [Vm.E, List.lookup, Nat.reduceAdd, Nat.reduceBEq, Int.reduceBNe, Int.reduceBEq, Bool.true_beq, Bool.false_beq]
        refine kept_intro ⟨l.length - (i + 1), by omega, _, le_mk [(0, .ptr R.iv 0), (3, .own true 3 1 ((allY f (l.take (i + 1))).map encI)), (4, .own true 47 2 (l.map kvAv)), (5, .v (.int .i64 (i + 1 : Nat)))] ?_, i + 1, by omega, rfl, rfl⟩
        simp only [List.forall_mem_cons, List.not_mem_nil, false_imp_iff, implies_true, and_true, est, Option.toList, List.append_nil, List.map_append, List.map_cons, List.map_nil, encI]
        simp -dsimp only [Vm.E, List.lookup, Nat.reduceAdd, Nat.reduceBEq, Int.reduceBNe, Int.reduceBEq, Bool.true_beq, Bool.false_beq, hw]
        exact ⟨.refl _, .refl _, .refl _, .refl _⟩
      · obtain ⟨n, hx, rfl⟩ : ∃ n, splitOf k = some (89, [n]) ∧ l' = [n] := by
          unfold ofOf at hs
          cases hx : splitOf k with
          | none => rw [hx] at hs; cases hs
          | some q =>
            obtain ⟨t, l2⟩ := q
            rw [hx] at hs
            simp only at hs
            split at hs
            · rename_i hc
              cases hs
              match l', hc with
              | [n], hc => exact ⟨n, by rw [hc.1], rfl⟩
              | [], hc => exact absurd hc.2 (by decide)
              | _ :: _ :: r, hc => exact absurd hc.2 (by simp only [List.length_cons]; omega)
            · cases hs
        rw [hx] at est
        simp only at est
        simp -dsimp only [Vm.E, List.lookup, Nat.reduceAdd, Nat.reduceBEq, Int.reduceBNe, Int.reduceBEq, Bool.true_beq, Bool.false_beq, Vm.S, Nat.reduceLeDiff, es41, as41, List.length_cons, List.length_nil, List.map_cons, List.map_nil, encI]
        refine idxO_intro (by decide) (by simp) ?_
        have g0 : ([AV.v (.int .i64 n)] : List AV)[(0 : Int).toNat]? = some (.v (.int .i64 n)) := rfl
        simp -dsimp only [Vm.E, List.lookup, Nat.reduceAdd, Nat.reduceBEq, Int.reduceBNe, Int.reduceBEq, Bool.true_beq, Bool.false_beq, Vm.S, Nat.reduceLeDiff]
        refine eltA_intro g0 ?_
        simp -dsimp only [Vm.E, List.lookup, Nat.reduceAdd, Nat.reduceBEq, Int.reduceBNe, Int.reduceBEq, Bool.true_beq, Bool.false_beq, Vm.S, Nat.reduceLeDiff, AV.cells, List.drop_zero, of3]
        refine call_one (S := rStateSpec) rfl _ GaL.rfl ⟨R, f, n, rfl, hR, hn, ?_⟩
        simp -dsimp only [Vm.E, List.lookup, Nat.reduceAdd, Nat.reduceBEq, Int.reduceBNe, Int.reduceBEq, Bool.true_beq, Bool.false_beq, Vm.S, Nat.reduceLeDiff]
        by_cases d2 : stateOf f n = 0
        · have c2 : (stateOf f n != 0) = false := by simpa using d2
          rw [if_pos d2] at est
          simp -dsimp only [Vm.E, List.lookup, Nat.reduceAdd, Nat.reduceBEq, Int.reduceBNe, Int.reduceBEq, Bool.true_beq, Bool.false_beq, Vm.S, Nat.reduceLeDiff, c2]
          refine kept_intro ⟨l.length - (i + 1), by omega, _, le_mk [(0, .ptr R.iv 0), (3, .own true 3 1 ((allY f (l.take (i + 1))).map encI)), (4, .own true 47 2 (l.map kvAv)), (5, .v (.int .i64 (i + 1 : Nat)))] ?_, i + 1, by omega, rfl, rfl⟩
          simp only [List.forall_mem_cons, List.not_mem_nil, false_imp_iff, implies_true, and_true, est, Option.toList, List.append_nil, List.map_append, List.map_cons, List.map_nil, encI]
          simp -dsimp only [Vm.E, List.lookup, Nat.reduceAdd, Nat.reduceBEq, Int.reduceBNe, Int.reduceBEq, Bool.true_beq, Bool.false_beq, hw]
          exact ⟨.refl _, .refl _, .refl _, .refl _⟩
        · have c2 : (stateOf f n != 0) = true := by simpa using d2
          rw [if_neg d2] at est
          simp -dsimp only [Vm.E, List.lookup, Nat.reduceAdd, Nat.reduceBEq, Int.reduceBNe, Int.reduceBEq, Bool.true_beq, Bool.false_beq, Vm.S, Nat.reduceLeDiff, c2, es41, as41]
          refine idxO_intro (by decide) (by simp) ?_
          simp -dsimp only [Vm.E, List.lookup, Nat.reduceAdd, Nat.reduceBEq, Int.reduceBNe, Int.reduceBEq, Bool.true_beq, Bool.false_beq, Vm.S, Nat.reduceLeDiff]
          refine eltA_intro g0 ?_
          simp -dsimp only [Vm.E, List.lookup, Nat.reduceAdd, Nat.reduceBEq, Int.reduceBNe, Int.reduceBEq, Bool.true_beq, Bool.false_beq, Vm.S, Nat.reduceLeDiff, AV.cells, List.drop_zero, of3, es41]
          refine bs_intro zr3 (by decide) (by decide) rfl rfl (by simp [solid, AV.cells]) ?_
          simp -dsimp only [Vm.E, List.lookup, Nat.reduceAdd, Nat.reduceBEq, Int.reduceBNe, Int.reduceBEq, Bool.true_beq, Bool.false_beq, append_own ei41]
          refine app_sl Tryz.underlying41 (by simp [AV.cells]) (by simp only [List.length_map, List.length_cons, List.length_nil]; omega) ?_
          simp -dsimp only [Vm.E, List.lookup, Nat.reduceAdd, Nat.reduceBEq, Int.reduceBNe, Int.reduceBEq, Bool.true_beq, Bool.false_beq]
          refine kept_intro ⟨l.length - (i + 1), by omega, _, le_mk [(0, .ptr R.iv 0), (3, .own true 3 1 ((allY f (l.take (i + 1))).map encI)), (4, .own true 47 2 (l.map kvAv)), (5, .v (.int .i64 (i + 1 : Nat)))] ?_, i + 1, by omega, rfl, rfl⟩
          simp only [List.forall_mem_cons, List.not_mem_nil, false_imp_iff, implies_true, and_true, est, Option.toList, List.append_nil, List.map_append, List.map_cons, List.map_nil, encI]
          simp -dsimp only [Vm.E, List.lookup, Nat.reduceAdd, Nat.reduceBEq, Int.reduceBNe, Int.reduceBEq, Bool.true_beq, Bool.false_beq, hw]
          exact ⟨.refl _, .refl _, .refl _, .refl _⟩
    · have hge : ¬ i < l.length := by have := of_decide_eq_false hcc; omega
      simp -dsimp only [Vm.E, List.lookup, Nat.reduceAdd, Nat.reduceBEq, Int.reduceBNe, Int.reduceBEq, Bool.true_beq, Bool.false_beq, Tryz.results51]
      rw [List.take_of_length_le (by omega)]
      exact hq l hsc hln
end Go.Proofs.Lx
/- The law YearsLive. -/
set_option linter.unusedSimpArgs false
set_option linter.unusedVariables false
namespace Go.Proofs.Lx
open Go.Vm
attribute [local irreducible] awpArr awpBin awpMake awpAppend awpCvX awpStrOf awpBinX awpSlice awpBS awpStore awpAlloc awpCopy awpIndex awpDraw awpIdxX awpFa awpField awpLookup awpUpdate awpDelete awpClear awpRange awpNext awpEntry awpBuild awpClearS awpIdxL awpTree appB awpIdxO eltA treeA
theorem both_rnew {h : Heap} {V : VId} (hV : isView h V noF) : Both (rNewH h) V (rNewId h) noF := by
  refine ⟨by unfold rNewH; exact hV.more _, isRef_new h, fun i hi hm => ?_⟩
  obtain ⟨chg, clk, mem, clk2, h1, h2, h3, -⟩ := hV
  have a1 := get_lt h1
  have a2 := get_lt h2
  have a3 := get_lt h3
  simp only [rNewId, List.mem_cons, List.not_mem_nil, or_false] at hi hm
  omega
def rNewASpec : Vm.Spec := fun args h Q => ∃ V : VId, args = [.sl 2 []] ∧ isView h V noF ∧ ∀ (R : RId) (h' : Heap), Both h' V R noF → Q (.ptr R.iv 0) h'
theorem does_rNewA : Does Tryz.prog 20 rNewASpec := does_rNew.imp (by
  rintro args h Q ⟨V, rfl, hV, hq⟩
  exact ⟨rfl, hq (rNewId h) (rNewH h) (both_rnew hV)⟩)
theorem bool_neq {a b : Bool} {KV : Value → Prop} : awpBin Tryz.prog .neq 4 (.v (.bool a)) (.v (.bool b)) KV = KV (.bool (!(a == b))) := by simp [awpBin, Tryz.underlying4]
def yLiveSpec : Vm.Spec := fun args h Q => ∃ (first : List KV) (l : List Do), first.length ≤ 9223372036854775807 ∧ l.length ≤ 9223372036854775807 ∧ args = [.sl 2 (first.map kvAv), .sl 2 (l.map doAv)] ∧ ∀ h', Q (.v (.bool true)) h'
set_option maxRecDepth 20000 in
set_option maxHeartbeats 4000000 in
theorem does_yLive : Does Tryz.prog 8 yLiveSpec := by
  refine does_of_awp (good_cons does_few (good_cons does_vnewA (good_cons does_rNewA (good_cons does_vput (good_cons does_rSet (good_cons does_yOpen (good_cons does_rOpen (good_cons does_yShut (good_cons does_rShut (good_cons does_yState (good_cons does_rState (good_cons does_yCheck (good_cons does_rCheck (good_cons does_yrRight (good_cons does_rYRight (good_cons does_yAll (good_cons does_rAll (good_cons does_eqInt (good_cons does_same (good_cons does_law22awake good_nil)))))))))))))))))))) Tryz.func8 rfl (by decide +kernel) (by decide +kernel) ?_
  rintro args h Q ⟨first, l, hfl, hl, rfl, hq⟩
  refine ⟨by simp [Tryz.f8], ?_⟩
  rw [awpFunc_some (by rfl)]
  simp -dsimp only [Vm.E, List.lookup, Nat.reduceAdd, Nat.reduceBEq, Int.reduceBNe, Int.reduceBEq, Bool.true_beq, Bool.false_beq, Vm.S, Nat.reduceLeDiff, q8]
  refine call_one (S := fewSpec) rfl _ GaL.rfl ⟨first, 20, hfl, rfl, ?_⟩
  cases cf : fewOf first 20
  · simp -dsimp only [Vm.E, List.lookup, Nat.reduceAdd, Nat.reduceBEq, Int.reduceBNe, Int.reduceBEq, Bool.true_beq, Bool.false_beq, Vm.S, Nat.reduceLeDiff, q8]
    refine call_one (S := trueSpec) rfl _ GaL.rfl ⟨rfl, fun hz => ?_⟩
    simp -dsimp only [Vm.E, List.lookup, Nat.reduceAdd, Nat.reduceBEq, Int.reduceBNe, Int.reduceBEq, Bool.true_beq, Bool.false_beq, Vm.S, Nat.reduceLeDiff, q8]
    exact hq _
  · have hf20 := few_true cf
    simp -dsimp only [Vm.E, List.lookup, Nat.reduceAdd, Nat.reduceBEq, Int.reduceBNe, Int.reduceBEq, Bool.true_beq, Bool.false_beq, Vm.S, Nat.reduceLeDiff, q8]
    cases c60 : decide ((l.length : Int) > 60)
    · have d60 := of_decide_eq_false c60
      simp -dsimp only [Vm.E, List.lookup, Nat.reduceAdd, Nat.reduceBEq, Int.reduceBNe, Int.reduceBEq, Bool.true_beq, Bool.false_beq, Vm.S, Nat.reduceLeDiff, q8]
      refine call_one (S := vnewASpec) rfl _ GaL.rfl ⟨rfl, fun V h00 hV00 => ?_⟩
      simp -dsimp only [Vm.E, List.lookup, Nat.reduceAdd, Nat.reduceBEq, Int.reduceBNe, Int.reduceBEq, Bool.true_beq, Bool.false_beq, Vm.S, Nat.reduceLeDiff, q8]
      refine call_one (S := rNewASpec) rfl _ (.cons (.nil 2) .nil) ⟨V, rfl, hV00, fun R h0 hB0 => ?_⟩
      clear hV00
      simp -dsimp only [Vm.E, List.lookup, Nat.reduceAdd, Nat.reduceBEq, Int.reduceBNe, Int.reduceBEq, Bool.true_beq, Bool.false_beq, Vm.S, Nat.reduceLeDiff, q8]
      refine awp_loop (fun m s h' => ∃ (i : Nat) (f : Fun), i + m = first.length ∧ Both h' V R f ∧ f.n ≤ i ∧ s = mk [(1, .sl 2 (l.map doAv)),(5, .ptr V.iv 0), (6, .ptr R.iv 0), (23, .sl 2 (first.map kvAv)), (24, .v (.int .i64 first.length)), (25, .v (.int .i64 i))])
        first.length _ (le_mk _ ?_) ⟨0, noF, by omega, hB0, Nat.le_refl _, rfl⟩ ?_
      · simp only [List.forall_mem_cons, List.not_mem_nil, false_imp_iff, implies_true, and_true]
        try simp -dsimp only [Vm.E, List.lookup, Nat.reduceAdd, Nat.reduceBEq, Int.reduceBNe, Int.reduceBEq, Bool.true_beq, Bool.false_beq, Vm.S, Nat.reduceLeDiff, q8]
        repeat' first | exact Fg.refl _ | exact Fg.nil _ _ _ (by decide) | refine And.intro ?_ ?_
      · clear hB0
        rintro m s h' ⟨i, f, hi, hB, hfn, rfl⟩
        simp -dsimp only [Vm.E, List.lookup, Nat.reduceAdd, Nat.reduceBEq, Int.reduceBNe, Int.reduceBEq, Bool.true_beq, Bool.false_beq, Vm.S, Nat.reduceLeDiff, q8]
        refine cond_intro (fun hcc => ?_) (fun hcc => ?_)
        · have hlt : i < first.length := by have := of_decide_eq_true hcc; omega
          have hw : IntKind.i64.wrap ((i : Int) + 1) = ((i + 1 : Nat) : Int) := by rw [wrap_i64 (by omega) (by omega)]; simp
          obtain ⟨p, hp⟩ : ∃ p, first[i] = p := ⟨_, rfl⟩
          have hnn := addKV_n f p
          simp -dsimp only [Vm.E, List.lookup, Nat.reduceAdd, Nat.reduceBEq, Int.reduceBNe, Int.reduceBEq, Bool.true_beq, Bool.false_beq, Vm.S, Nat.reduceLeDiff, q8]
          refine idx_map kvAv first i hlt ?_
          simp only [hp, kvAv]
          simp -dsimp only [Vm.E, List.lookup, Nat.reduceAdd, Nat.reduceBEq, Int.reduceBNe, Int.reduceBEq, Bool.true_beq, Bool.false_beq, Vm.S, Nat.reduceLeDiff, q8, AV.cells]
          refine call_one (S := vputSpec) rfl _ GaL.rfl ⟨V, f, p.1, p.2, rfl, hB.1, fun hr h1 g1 g2 => ?_, fun hr => ?_⟩
          · have hR1 := hB.view g1 g2
            have ea : upd f p.1 (some p.2) = addKV f p := by unfold addKV; rw [if_pos hr]
            rw [ea] at g1
            simp -dsimp only [Vm.E, List.lookup, Nat.reduceAdd, Nat.reduceBEq, Int.reduceBNe, Int.reduceBEq, Bool.true_beq, Bool.false_beq, Vm.S, Nat.reduceLeDiff, q8]
            refine call_one (S := rSetSpec) rfl _ GaL.rfl ⟨R, f, p, rfl, hR1, by omega, fun h2 g3 g4 => ?_⟩
            have hB2 := hB.ref g1 g3 g4
            simp -dsimp only [Vm.E, List.lookup, Nat.reduceAdd, Nat.reduceBEq, Int.reduceBNe, Int.reduceBEq, Bool.true_beq, Bool.false_beq, Vm.S, Nat.reduceLeDiff, q8]
            refine kept_intro ⟨first.length - (i + 1), by omega, _, le_mk [(1, .sl 2 (l.map doAv)),(5, .ptr V.iv 0), (6, .ptr R.iv 0), (23, .sl 2 (first.map kvAv)), (24, .v (.int .i64 first.length)), (25, .v (.int .i64 (i + 1 : Nat)))] ?_, i + 1, addKV f p, by omega, hB2, by omega, rfl⟩
            simp only [List.forall_mem_cons, List.not_mem_nil, false_imp_iff, implies_true, and_true, hw]
            try simp -dsimp only [Vm.E, List.lookup, Nat.reduceAdd, Nat.reduceBEq, Int.reduceBNe, Int.reduceBEq, Bool.true_beq, Bool.false_beq, Vm.S, Nat.reduceLeDiff, q8, hw]
            repeat' first | exact Fg.refl _ | exact Fg.nil _ _ _ (by decide) | refine And.intro ?_ ?_
          · have ea : f = addKV f p := by unfold addKV; rw [if_neg (by rw [hr]; decide)]
            have hV1 : isView h' V (addKV f p) := by rw [← ea]; exact hB.1
            simp -dsimp only [Vm.E, List.lookup, Nat.reduceAdd, Nat.reduceBEq, Int.reduceBNe, Int.reduceBEq, Bool.true_beq, Bool.false_beq, Vm.S, Nat.reduceLeDiff, q8]
            refine call_one (S := rSetSpec) rfl _ GaL.rfl ⟨R, f, p, rfl, hB.2.1, by omega, fun h2 g3 g4 => ?_⟩
            have hB2 := hB.ref hV1 g3 g4
            simp -dsimp only [Vm.E, List.lookup, Nat.reduceAdd, Nat.reduceBEq, Int.reduceBNe, Int.reduceBEq, Bool.true_beq, Bool.false_beq, Vm.S, Nat.reduceLeDiff, q8]
            refine kept_intro ⟨first.length - (i + 1), by omega, _, le_mk [(1, .sl 2 (l.map doAv)),(5, .ptr V.iv 0), (6, .ptr R.iv 0), (23, .sl 2 (first.map kvAv)), (24, .v (.int .i64 first.length)), (25, .v (.int .i64 (i + 1 : Nat)))] ?_, i + 1, addKV f p, by omega, hB2, by omega, rfl⟩
            simp only [List.forall_mem_cons, List.not_mem_nil, false_imp_iff, implies_true, and_true, hw]
            try simp -dsimp only [Vm.E, List.lookup, Nat.reduceAdd, Nat.reduceBEq, Int.reduceBNe, Int.reduceBEq, Bool.true_beq, Bool.false_beq, Vm.S, Nat.reduceLeDiff, q8, hw]
            repeat' first | exact Fg.refl _ | exact Fg.nil _ _ _ (by decide) | refine And.intro ?_ ?_
        · clear hcc
          simp -dsimp only [Vm.E, List.lookup, Nat.reduceAdd, Nat.reduceBEq, Int.reduceBNe, Int.reduceBEq, Bool.true_beq, Bool.false_beq, Vm.S, Nat.reduceLeDiff, q8]
          refine awp_loop (fun m s h' => ∃ (i : Nat) (f : Fun), i + m = l.length ∧ Both h' V R f ∧ f.n ≤ 20 + i ∧ s = mk [(5, .ptr V.iv 0), (6, .ptr R.iv 0), (39, .sl 2 (l.map doAv)), (40, .v (.int .i64 l.length)), (41, .v (.int .i64 (i : Nat)))])
            l.length _ (le_mk _ ?_) ⟨0, f, by omega, hB, by omega, rfl⟩ ?_
          · simp only [List.forall_mem_cons, List.not_mem_nil, false_imp_iff, implies_true, and_true]
            try simp -dsimp only [Vm.E, List.lookup, Nat.reduceAdd, Nat.reduceBEq, Int.reduceBNe, Int.reduceBEq, Bool.true_beq, Bool.false_beq, Vm.S, Nat.reduceLeDiff, q8]
            repeat' first | exact Fg.refl _ | exact Fg.nil _ _ _ (by decide) | refine And.intro ?_ ?_
          · clear hB hfn hi
            rintro m s h' ⟨i, f, hi, hB, hfn, rfl⟩
            simp -dsimp only [Vm.E, List.lookup, Nat.reduceAdd, Nat.reduceBEq, Int.reduceBNe, Int.reduceBEq, Bool.true_beq, Bool.false_beq, Vm.S, Nat.reduceLeDiff, q8]
            refine cond_intro (fun hcc => ?_) (fun hcc => ?_)
            · have hlt : i < l.length := by have := of_decide_eq_true hcc; omega
              have hw : IntKind.i64.wrap ((i : Int) + 1) = ((i + 1 : Nat) : Int) := by rw [wrap_i64 (by omega) (by omega)]; simp
              obtain ⟨k, hk⟩ : ∃ k, l[i] = k := ⟨_, rfl⟩
              simp -dsimp only [Vm.E, List.lookup, Nat.reduceAdd, Nat.reduceBEq, Int.reduceBNe, Int.reduceBEq, Bool.true_beq, Bool.false_beq, Vm.S, Nat.reduceLeDiff, q8]
              refine idx_map doAv l i hlt ?_
              simp only [hk, doAv]
              simp -dsimp only [Vm.E, List.lookup, Nat.reduceAdd, Nat.reduceBEq, Int.reduceBNe, Int.reduceBEq, Bool.true_beq, Bool.false_beq, Vm.S, Nat.reduceLeDiff, q8, AV.cells]
              cases ck : (k.1 == 0)
              · simp -dsimp only [Vm.E, List.lookup, Nat.reduceAdd, Nat.reduceBEq, Int.reduceBNe, Int.reduceBEq, Bool.true_beq, Bool.false_beq, Vm.S, Nat.reduceLeDiff, q8]
                have hnn := shut_n f k.2
                refine draw_cont [10] (.take 0 (.take 1 (.take 2 (.take 4 (.take 5 (.take 6 (.alt 3 (.alt 7 (.take 8 (.alt 9 (.done) .stop)) .stop) .stop))))))) (fun s h2 => (∃ g : Fun, Both h2 V R g ∧ g.n ≤ 20 + (i + 1)) ∧ s 10 = .eptr [.v (.int .i64 k.1), .v (.int .i64 k.2)] ∧ s 11 = .v (.bool true) ∧ s 5 = .ptr V.iv 0 ∧ s 6 = .ptr R.iv 0 ∧ s 39 = .sl 2 (l.map doAv) ∧ s 40 = .v (.int .i64 l.length) ∧ s 41 = .v (.int .i64 i)) (by kernel_rfl) (by kernel_rfl) (by kernel_rfl) (by decide) ?_ ?_
                · simp -dsimp only [Vm.E, List.lookup, Nat.reduceAdd, Nat.reduceBEq, Int.reduceBNe, Int.reduceBEq, Bool.true_beq, Bool.false_beq, Vm.S, Nat.reduceLeDiff, q8]
                  refine call_one (S := yShutSpec) rfl _ GaL.rfl ⟨V, f, k.2, rfl, hB.1, fun h2 g1 g2 => ?_⟩
                  simp -dsimp only [Vm.E, List.lookup, Nat.reduceAdd, Nat.reduceBEq, Int.reduceBNe, Int.reduceBEq, Bool.true_beq, Bool.false_beq, Vm.S, Nat.reduceLeDiff, q8]
                  refine call_one (S := rShutSpec) rfl _ GaL.rfl ⟨R, f, k.2, rfl, hB.view g1 g2, by omega, fun h3 g3 g4 => ?_⟩
                  simp -dsimp only [Vm.E, List.lookup, Nat.reduceAdd, Nat.reduceBEq, Int.reduceBNe, Int.reduceBEq, Bool.true_beq, Bool.false_beq, Vm.S, Nat.reduceLeDiff, q8]
                  refine ⟨⟨_, hB.ref g1 g3 g4, by omega⟩, ?_⟩
                  repeat' first | rfl | exact True.intro | refine And.intro ?_ ?_
                · rintro s h2 ⟨⟨g, hB2, hgn⟩, e10, e11, e5, e6, e39, e40, e41⟩
                  simp -dsimp only [Vm.E, List.lookup, Nat.reduceAdd, Nat.reduceBEq, Int.reduceBNe, Int.reduceBEq, Bool.true_beq, Bool.false_beq, Vm.S, Nat.reduceLeDiff, q8, e10, e11, e5, e6, e39, e40, e41]
                  refine draw_cont [] (.take 0 (.take 1 (.take 2 (.take 3 (.take 4 (.take 5 (.take 7 (.take 8 (.take 9 (.alt 6 (.alt 10 (.take 11 (.take 12 (.take 13 (.take 14 (.take 15 (.take 16 (.take 18 (.take 19 (.take 20 (.alt 17 (.alt 21 (.take 22 (.take 23 (.take 24 (.take 25 (.take 26 (.take 28 (.take 29 (.alt 27 (.alt 30 (.take 31 (.take 32 (.done))) .stop) .stop)))))))) .stop) .stop)))))))))) .stop) .stop)))))))))) (fun s h3 => h3 = h2 ∧ s 98 = .v (.bool false) ∧ s 5 = .ptr V.iv 0 ∧ s 6 = .ptr R.iv 0 ∧ s 39 = .sl 2 (l.map doAv) ∧ s 40 = .v (.int .i64 l.length) ∧ s 41 = .v (.int .i64 i)) (by kernel_rfl) (by kernel_rfl) (by kernel_rfl) (by decide) ?_ ?_
                  · simp -dsimp only [Vm.E, List.lookup, Nat.reduceAdd, Nat.reduceBEq, Int.reduceBNe, Int.reduceBEq, Bool.true_beq, Bool.false_beq, Vm.S, Nat.reduceLeDiff, q8, e10, e11, e5, e6, e39, e40, e41]
                    refine call_one (S := yStateSpec) rfl _ GaL.rfl ⟨V, g, k.2, rfl, hB2.1, ?_⟩
                    simp -dsimp only [Vm.E, List.lookup, Nat.reduceAdd, Nat.reduceBEq, Int.reduceBNe, Int.reduceBEq, Bool.true_beq, Bool.false_beq, Vm.S, Nat.reduceLeDiff, q8, e10, e11, e5, e6, e39, e40, e41]
                    refine call_one (S := rStateSpec) rfl _ GaL.rfl ⟨R, g, k.2, rfl, hB2.2.1, by omega, ?_⟩
                    simp -dsimp only [Vm.E, List.lookup, Nat.reduceAdd, Nat.reduceBEq, Int.reduceBNe, Int.reduceBEq, Bool.true_beq, Bool.false_beq, Vm.S, Nat.reduceLeDiff, q8, e10, e11, e5, e6, e39, e40, e41, bne_self_eq_false]
                    refine call_one (S := yCheckSpec) rfl _ GaL.rfl ⟨V, g, k.2, rfl, hB2.1, ?_⟩
                    simp -dsimp only [Vm.E, List.lookup, Nat.reduceAdd, Nat.reduceBEq, Int.reduceBNe, Int.reduceBEq, Bool.true_beq, Bool.false_beq, Vm.S, Nat.reduceLeDiff, q8, e10, e11, e5, e6, e39, e40, e41]
                    refine call_one (S := rCheckSpec) rfl _ GaL.rfl ⟨R, g, k.2, rfl, hB2.2.1, by omega, ?_⟩
                    simp -dsimp only [Vm.E, List.lookup, Nat.reduceAdd, Nat.reduceBEq, Int.reduceBNe, Int.reduceBEq, Bool.true_beq, Bool.false_beq, Vm.S, Nat.reduceLeDiff, q8, e10, e11, e5, e6, e39, e40, e41, bne_self_eq_false]
                    refine call_one (S := yrRightSpec) rfl _ GaL.rfl ⟨k.2, rfl, ?_⟩
                    simp -dsimp only [Vm.E, List.lookup, Nat.reduceAdd, Nat.reduceBEq, Int.reduceBNe, Int.reduceBEq, Bool.true_beq, Bool.false_beq, Vm.S, Nat.reduceLeDiff, q8, e10, e11, e5, e6, e39, e40, e41]
                    refine call_one (S := yrRightSpec) rfl _ GaL.rfl ⟨k.2, rfl, ?_⟩
                    simp -dsimp only [Vm.E, List.lookup, Nat.reduceAdd, Nat.reduceBEq, Int.reduceBNe, Int.reduceBEq, Bool.true_beq, Bool.false_beq, Vm.S, Nat.reduceLeDiff, q8, e10, e11, e5, e6, e39, e40, e41, bool_neq]
                  · rintro s2 h3 ⟨rfl, q98, q5, q6, q39, q40, q41⟩
                    clear e10 e11 e5 e6 e39 e40 e41
                    simp -dsimp only [Vm.E, List.lookup, Nat.reduceAdd, Nat.reduceBEq, Int.reduceBNe, Int.reduceBEq, Bool.true_beq, Bool.false_beq, Vm.S, Nat.reduceLeDiff, q8, q98, q5, q6, q39, q40, q41]
                    refine kept_intro ⟨l.length - (i + 1), by omega, _, le_mk [(5, .ptr V.iv 0), (6, .ptr R.iv 0), (39, .sl 2 (l.map doAv)), (40, .v (.int .i64 l.length)), (41, .v (.int .i64 (i + 1 : Nat)))] ?_, i + 1, g, by omega, hB2, by omega, rfl⟩
                    simp only [List.forall_mem_cons, List.not_mem_nil, false_imp_iff, implies_true, and_true, hw, q5, q6, q39, q40, q41]
                    try simp -dsimp only [Vm.E, List.lookup, Nat.reduceAdd, Nat.reduceBEq, Int.reduceBNe, Int.reduceBEq, Bool.true_beq, Bool.false_beq, Vm.S, Nat.reduceLeDiff, q8, hw, q5, q6, q39, q40, q41]
                    repeat' first | exact Fg.refl _ | exact Fg.nil _ _ _ (by decide) | refine And.intro ?_ ?_
              · simp -dsimp only [Vm.E, List.lookup, Nat.reduceAdd, Nat.reduceBEq, Int.reduceBNe, Int.reduceBEq, Bool.true_beq, Bool.false_beq, Vm.S, Nat.reduceLeDiff, q8]
                have hnn := open_n f k.2
                refine draw_cont [10] (.take 0 (.take 1 (.take 2 (.take 4 (.take 5 (.take 6 (.alt 3 (.alt 7 (.take 8 (.alt 9 (.done) .stop)) .stop) .stop))))))) (fun s h2 => (∃ g : Fun, Both h2 V R g ∧ g.n ≤ 20 + (i + 1)) ∧ s 10 = .eptr [.v (.int .i64 k.1), .v (.int .i64 k.2)] ∧ s 11 = .v (.bool true) ∧ s 5 = .ptr V.iv 0 ∧ s 6 = .ptr R.iv 0 ∧ s 39 = .sl 2 (l.map doAv) ∧ s 40 = .v (.int .i64 l.length) ∧ s 41 = .v (.int .i64 i)) (by kernel_rfl) (by kernel_rfl) (by kernel_rfl) (by decide) ?_ ?_
                · simp -dsimp only [Vm.E, List.lookup, Nat.reduceAdd, Nat.reduceBEq, Int.reduceBNe, Int.reduceBEq, Bool.true_beq, Bool.false_beq, Vm.S, Nat.reduceLeDiff, q8]
                  refine call_one (S := yOpenSpec) rfl _ GaL.rfl ⟨V, f, k.2, rfl, hB.1, fun h2 g1 g2 => ?_⟩
                  simp -dsimp only [Vm.E, List.lookup, Nat.reduceAdd, Nat.reduceBEq, Int.reduceBNe, Int.reduceBEq, Bool.true_beq, Bool.false_beq, Vm.S, Nat.reduceLeDiff, q8]
                  refine call_one (S := rOpenSpec) rfl _ GaL.rfl ⟨R, f, k.2, rfl, hB.view g1 g2, by omega, fun h3 g3 g4 => ?_⟩
                  simp -dsimp only [Vm.E, List.lookup, Nat.reduceAdd, Nat.reduceBEq, Int.reduceBNe, Int.reduceBEq, Bool.true_beq, Bool.false_beq, Vm.S, Nat.reduceLeDiff, q8]
                  refine ⟨⟨_, hB.ref g1 g3 g4, by omega⟩, ?_⟩
                  repeat' first | rfl | exact True.intro | refine And.intro ?_ ?_
                · rintro s h2 ⟨⟨g, hB2, hgn⟩, e10, e11, e5, e6, e39, e40, e41⟩
                  simp -dsimp only [Vm.E, List.lookup, Nat.reduceAdd, Nat.reduceBEq, Int.reduceBNe, Int.reduceBEq, Bool.true_beq, Bool.false_beq, Vm.S, Nat.reduceLeDiff, q8, e10, e11, e5, e6, e39, e40, e41]
                  refine draw_cont [] (.take 0 (.take 1 (.take 2 (.take 3 (.take 4 (.take 5 (.take 7 (.take 8 (.take 9 (.alt 6 (.alt 10 (.take 11 (.take 12 (.take 13 (.take 14 (.take 15 (.take 16 (.take 18 (.take 19 (.take 20 (.alt 17 (.alt 21 (.take 22 (.take 23 (.take 24 (.take 25 (.take 26 (.take 28 (.take 29 (.alt 27 (.alt 30 (.take 31 (.take 32 (.done))) .stop) .stop)))))))) .stop) .stop)))))))))) .stop) .stop)))))))))) (fun s h3 => h3 = h2 ∧ s 98 = .v (.bool false) ∧ s 5 = .ptr V.iv 0 ∧ s 6 = .ptr R.iv 0 ∧ s 39 = .sl 2 (l.map doAv) ∧ s 40 = .v (.int .i64 l.length) ∧ s 41 = .v (.int .i64 i)) (by kernel_rfl) (by kernel_rfl) (by kernel_rfl) (by decide) ?_ ?_
                  · simp -dsimp only [Vm.E, List.lookup, Nat.reduceAdd, Nat.reduceBEq, Int.reduceBNe, Int.reduceBEq, Bool.true_beq, Bool.false_beq, Vm.S, Nat.reduceLeDiff, q8, e10, e11, e5, e6, e39, e40, e41]
                    refine call_one (S := yStateSpec) rfl _ GaL.rfl ⟨V, g, k.2, rfl, hB2.1, ?_⟩
                    simp -dsimp only [Vm.E, List.lookup, Nat.reduceAdd, Nat.reduceBEq, Int.reduceBNe, Int.reduceBEq, Bool.true_beq, Bool.false_beq, Vm.S, Nat.reduceLeDiff, q8, e10, e11, e5, e6, e39, e40, e41]
                    refine call_one (S := rStateSpec) rfl _ GaL.rfl ⟨R, g, k.2, rfl, hB2.2.1, by omega, ?_⟩
                    simp -dsimp only [Vm.E, List.lookup, Nat.reduceAdd, Nat.reduceBEq, Int.reduceBNe, Int.reduceBEq, Bool.true_beq, Bool.false_beq, Vm.S, Nat.reduceLeDiff, q8, e10, e11, e5, e6, e39, e40, e41, bne_self_eq_false]
                    refine call_one (S := yCheckSpec) rfl _ GaL.rfl ⟨V, g, k.2, rfl, hB2.1, ?_⟩
                    simp -dsimp only [Vm.E, List.lookup, Nat.reduceAdd, Nat.reduceBEq, Int.reduceBNe, Int.reduceBEq, Bool.true_beq, Bool.false_beq, Vm.S, Nat.reduceLeDiff, q8, e10, e11, e5, e6, e39, e40, e41]
                    refine call_one (S := rCheckSpec) rfl _ GaL.rfl ⟨R, g, k.2, rfl, hB2.2.1, by omega, ?_⟩
                    simp -dsimp only [Vm.E, List.lookup, Nat.reduceAdd, Nat.reduceBEq, Int.reduceBNe, Int.reduceBEq, Bool.true_beq, Bool.false_beq, Vm.S, Nat.reduceLeDiff, q8, e10, e11, e5, e6, e39, e40, e41, bne_self_eq_false]
                    refine call_one (S := yrRightSpec) rfl _ GaL.rfl ⟨k.2, rfl, ?_⟩
                    simp -dsimp only [Vm.E, List.lookup, Nat.reduceAdd, Nat.reduceBEq, Int.reduceBNe, Int.reduceBEq, Bool.true_beq, Bool.false_beq, Vm.S, Nat.reduceLeDiff, q8, e10, e11, e5, e6, e39, e40, e41]
                    refine call_one (S := yrRightSpec) rfl _ GaL.rfl ⟨k.2, rfl, ?_⟩
                    simp -dsimp only [Vm.E, List.lookup, Nat.reduceAdd, Nat.reduceBEq, Int.reduceBNe, Int.reduceBEq, Bool.true_beq, Bool.false_beq, Vm.S, Nat.reduceLeDiff, q8, e10, e11, e5, e6, e39, e40, e41, bool_neq]
                  · rintro s2 h3 ⟨rfl, q98, q5, q6, q39, q40, q41⟩
                    clear e10 e11 e5 e6 e39 e40 e41
                    simp -dsimp only [Vm.E, List.lookup, Nat.reduceAdd, Nat.reduceBEq, Int.reduceBNe, Int.reduceBEq, Bool.true_beq, Bool.false_beq, Vm.S, Nat.reduceLeDiff, q8, q98, q5, q6, q39, q40, q41]
                    refine kept_intro ⟨l.length - (i + 1), by omega, _, le_mk [(5, .ptr V.iv 0), (6, .ptr R.iv 0), (39, .sl 2 (l.map doAv)), (40, .v (.int .i64 l.length)), (41, .v (.int .i64 (i + 1 : Nat)))] ?_, i + 1, g, by omega, hB2, by omega, rfl⟩
                    simp only [List.forall_mem_cons, List.not_mem_nil, false_imp_iff, implies_true, and_true, hw, q5, q6, q39, q40, q41]
                    try simp -dsimp only [Vm.E, List.lookup, Nat.reduceAdd, Nat.reduceBEq, Int.reduceBNe, Int.reduceBEq, Bool.true_beq, Bool.false_beq, Vm.S, Nat.reduceLeDiff, q8, hw, q5, q6, q39, q40, q41]
                    repeat' first | exact Fg.refl _ | exact Fg.nil _ _ _ (by decide) | refine And.intro ?_ ?_
            · have hge : ¬ i < l.length := by have := of_decide_eq_false hcc; omega
              simp -dsimp only [Vm.E, List.lookup, Nat.reduceAdd, Nat.reduceBEq, Int.reduceBNe, Int.reduceBEq, Bool.true_beq, Bool.false_beq, Vm.S, Nat.reduceLeDiff, q8]
              refine call_one (S := yAllSpec) rfl _ GaL.rfl ⟨V, f, rfl, hB.1, by omega, fun l1 h3 hsc hln hV1 hs1 => ?_⟩
              have hB3 := hB.quiet hV1 hs1
              simp -dsimp only [Vm.E, List.lookup, Nat.reduceAdd, Nat.reduceBEq, Int.reduceBNe, Int.reduceBEq, Bool.true_beq, Bool.false_beq, Vm.S, Nat.reduceLeDiff, q8]
              refine call_one (S := rAllSpec) rfl _ GaL.rfl ⟨R, f, rfl, hB3.2.1, by omega, fun l2 hsc2 hln2 => ?_⟩
              obtain rfl := hsc.same hsc2
              have hal : (allY f l1).length ≤ l1.length := List.length_filterMap_le ..
              simp -dsimp only [Vm.E, List.lookup, Nat.reduceAdd, Nat.reduceBEq, Int.reduceBNe, Int.reduceBEq, Bool.true_beq, Bool.false_beq, Vm.S, Nat.reduceLeDiff, q8]
              refine call_one (S := eqIntSpec) rfl _ GaL.rfl ⟨allY f l1, allY f l1, by omega, rfl, ?_⟩
              simp -dsimp only [Vm.E, List.lookup, Nat.reduceAdd, Nat.reduceBEq, Int.reduceBNe, Int.reduceBEq, Bool.true_beq, Bool.false_beq, Vm.S, Nat.reduceLeDiff, q8, decide_true]
              refine call_one (S := sameSpec) rfl _ GaL.rfl ⟨V, R, f, rfl, hB3, by omega, fun h4 _ => ?_⟩
              simp -dsimp only [Vm.E, List.lookup, Nat.reduceAdd, Nat.reduceBEq, Int.reduceBNe, Int.reduceBEq, Bool.true_beq, Bool.false_beq, Vm.S, Nat.reduceLeDiff, q8]
              refine call_one (S := trueSpec) rfl _ GaL.rfl ⟨rfl, fun hz => ?_⟩
              simp -dsimp only [Vm.E, List.lookup, Nat.reduceAdd, Nat.reduceBEq, Int.reduceBNe, Int.reduceBEq, Bool.true_beq, Bool.false_beq, Vm.S, Nat.reduceLeDiff, q8]
              exact hq _
    · simp -dsimp only [Vm.E, List.lookup, Nat.reduceAdd, Nat.reduceBEq, Int.reduceBNe, Int.reduceBEq, Bool.true_beq, Bool.false_beq, Vm.S, Nat.reduceLeDiff, q8]
      refine call_one (S := trueSpec) rfl _ GaL.rfl ⟨rfl, fun hz => ?_⟩
      simp -dsimp only [Vm.E, List.lookup, Nat.reduceAdd, Nat.reduceBEq, Int.reduceBNe, Int.reduceBEq, Bool.true_beq, Bool.false_beq, Vm.S, Nat.reduceLeDiff, q8]
      exact hq _
theorem yLive_args {y0 y1 : AV} (i0 : IsA (.sl (.agg [.sl (.int .u8), .sl (.int .u8)])) y0) (i1 : IsA (.sl (.agg [.int .i64, .int .i64])) y1) {Q : AV → Heap → Prop} (hq : ∀ h', Q (.v (.bool true)) h') : yLiveSpec [y0, y1] [] Q := by
  obtain ⟨f, hf, rfl, -⟩ := isA_list _ kvAv (fun y hy => isA_kv hy) i0
  obtain ⟨l, hl, rfl, -⟩ := isA_list _ doAv (fun y hy => isA_do hy) i1
  exact ⟨f, l, hf, hl, rfl, hq⟩
end Go.Proofs.Lx
/- The reference of nodes: ref19, ref28. -/
set_option linter.unusedSimpArgs false
set_option linter.unusedVariables false
namespace Go.Proofs.Lx
open Go.Vm
attribute [local irreducible] awpArr awpBin awpMake awpAppend awpCvX awpStrOf awpBinX awpSlice awpBS awpStore awpAlloc awpCopy awpIndex awpDraw awpIdxX awpFa awpField awpLookup awpUpdate awpDelete awpClear awpRange awpNext awpEntry awpBuild awpClearS awpIdxL awpTree appB awpIdxO eltA treeA
def rPairSpec : Vm.Spec := fun args h Q => ∃ (tag : UInt8) (kl vl : List Int), kl.length ≤ 4611686018427387904 ∧ vl.length ≤ 4611686018427387904 ∧ (∀ n ∈ vl, I64 n) ∧ args = [.v (.int .u8 tag.toNat), .sl 1 (kl.map encI), .sl 1 (vl.map encI)] ∧
  Q (.agg [.sl 1 ((keyOf tag kl).map encB), .sl 1 ((packOf vl).map encB)]) h
theorem does_rPair : Does Tryz.prog 189 rPairSpec := by
  refine does_of_awp (good_cons does_rKey (good_cons does_rPack good_nil)) Tryz.func189 rfl (by decide +kernel) (by decide +kernel) ?_
  rintro args h Q ⟨tag, kl, vl, hk, hv, hi, rfl, hq⟩
  refine ⟨by simp [Tryz.f189], ?_⟩
  rw [awpFunc_some (by rfl)]
  simp -dsimp only [Vm.E, List.lookup, Nat.reduceAdd, Nat.reduceBEq, Int.reduceBNe, Int.reduceBEq, Bool.true_beq, Bool.false_beq, Vm.S, Nat.reduceLeDiff, q189]
  refine call_one (S := keySpec) rfl _ GaL.rfl ⟨tag, kl, by omega, rfl, ?_⟩
  simp -dsimp only [Vm.E, List.lookup, Nat.reduceAdd, Nat.reduceBEq, Int.reduceBNe, Int.reduceBEq, Bool.true_beq, Bool.false_beq, Vm.S, Nat.reduceLeDiff, q189]
  refine call_one (S := packSpec) rfl _ GaL.rfl ⟨vl, by omega, hi, rfl, ?_⟩
  simp -dsimp only [Vm.E, List.lookup, Nat.reduceAdd, Nat.reduceBEq, Int.reduceBNe, Int.reduceBEq, Bool.true_beq, Bool.false_beq, Vm.S, Nat.reduceLeDiff, q189]
  exact hq
set_option maxRecDepth 20000 in
theorem does_rNode : Does Tryz.prog 129 nodeSpec := by
  refine does_of_awp (good_cons does_rPair good_nil) Tryz.func129 rfl (by decide +kernel) (by decide +kernel) ?_
  rintro args h Q ⟨n, ⟨o1, o2, o3, o4, o5, o6, o7, o8, o9, o10, o11⟩, rfl, hq⟩
  refine ⟨by simp [Tryz.f129], ?_⟩
  rw [awpFunc_some (by rfl)]
  simp only [ndCells]
  cases ha : n.abs
  · simp -dsimp only [Vm.E, List.lookup, Nat.reduceAdd, Nat.reduceBEq, Int.reduceBNe, Int.reduceBEq, Bool.true_beq, Bool.false_beq, Vm.S, Nat.reduceLeDiff, q129]
    refine bs_intro zr3 (by decide) (by decide) rfl rfl (by simp [solid, AV.cells]) ?_
    simp -dsimp only [Vm.E, List.lookup, Nat.reduceAdd, Nat.reduceBEq, Int.reduceBNe, Int.reduceBEq, Bool.true_beq, Bool.false_beq, Vm.S, Nat.reduceLeDiff, q129]
    refine bs_intro zr3 (by decide) (by decide) rfl rfl (by simp [solid, AV.cells]) ?_
    simp -dsimp only [Vm.E, List.lookup, Nat.reduceAdd, Nat.reduceBEq, Int.reduceBNe, Int.reduceBEq, Bool.true_beq, Bool.false_beq, Vm.S, Nat.reduceLeDiff, q129]
    refine call_one (S := rPairSpec) rfl _ GaL.rfl ⟨78, [n.year, n.id], [n.parent, n.fund, n.obj, 0, n.limit, n.pre, n.enc, n.exp, n.lapsed, n.carried], by simp, by simp, ?_, rfl, ?_⟩
    · intro m hm
      simp only [List.mem_cons, List.not_mem_nil, or_false] at hm
      have z0 : I64 0 := by unfold I64; omega
      have z1 : I64 1 := by unfold I64; omega
      rcases hm with rfl | rfl | rfl | rfl | rfl | rfl | rfl | rfl | rfl | rfl <;> assumption
    · simp -dsimp only [Vm.E, List.lookup, Nat.reduceAdd, Nat.reduceBEq, Int.reduceBNe, Int.reduceBEq, Bool.true_beq, Bool.false_beq, Vm.S, Nat.reduceLeDiff, q129]
      have e : packOf (ndVal n) = packOf [n.parent, n.fund, n.obj, 0, n.limit, n.pre, n.enc, n.exp, n.lapsed, n.carried] := by unfold ndVal; rw [ha]; rfl
      rw [e] at hq
      exact hq
  · simp -dsimp only [Vm.E, List.lookup, Nat.reduceAdd, Nat.reduceBEq, Int.reduceBNe, Int.reduceBEq, Bool.true_beq, Bool.false_beq, Vm.S, Nat.reduceLeDiff, q129]
    refine bs_intro zr3 (by decide) (by decide) rfl rfl (by simp [solid, AV.cells]) ?_
    simp -dsimp only [Vm.E, List.lookup, Nat.reduceAdd, Nat.reduceBEq, Int.reduceBNe, Int.reduceBEq, Bool.true_beq, Bool.false_beq, Vm.S, Nat.reduceLeDiff, q129]
    refine bs_intro zr3 (by decide) (by decide) rfl rfl (by simp [solid, AV.cells]) ?_
    simp -dsimp only [Vm.E, List.lookup, Nat.reduceAdd, Nat.reduceBEq, Int.reduceBNe, Int.reduceBEq, Bool.true_beq, Bool.false_beq, Vm.S, Nat.reduceLeDiff, q129]
    refine call_one (S := rPairSpec) rfl _ GaL.rfl ⟨78, [n.year, n.id], [n.parent, n.fund, n.obj, 1, n.limit, n.pre, n.enc, n.exp, n.lapsed, n.carried], by simp, by simp, ?_, rfl, ?_⟩
    · intro m hm
      simp only [List.mem_cons, List.not_mem_nil, or_false] at hm
      have z0 : I64 0 := by unfold I64; omega
      have z1 : I64 1 := by unfold I64; omega
      rcases hm with rfl | rfl | rfl | rfl | rfl | rfl | rfl | rfl | rfl | rfl <;> assumption
    · simp -dsimp only [Vm.E, List.lookup, Nat.reduceAdd, Nat.reduceBEq, Int.reduceBNe, Int.reduceBEq, Bool.true_beq, Bool.false_beq, Vm.S, Nat.reduceLeDiff, q129]
      have e : packOf (ndVal n) = packOf [n.parent, n.fund, n.obj, 1, n.limit, n.pre, n.enc, n.exp, n.lapsed, n.carried] := by unfold ndVal; rw [ha]; rfl
      rw [e] at hq
      exact hq
/-- A pair's numbers, or not. -/
def bothOf (tag : UInt8) (k v : Nat) (key val : List UInt8) : Option (List Int × List Int) :=
  match ofOf key tag k with
  | some l => if val.length = 8 * v then some (l, numsOf val v) else none
  | none => none
theorem both_nums (tag : UInt8) (k v : Nat) (key val : List UInt8) : numsPair tag k v key val = (bothOf tag k v key val).map fun p => p.1 ++ p.2 := by
  unfold numsPair bothOf ofOf
  cases splitOf key with
  | none => rfl
  | some p =>
    obtain ⟨t, l⟩ := p
    simp only
    by_cases h1 : t = tag
    · by_cases h2 : l.length = k
      · have h2' : (l.length : Int) = k := by omega
        by_cases h3 : val.length = 8 * v
        · simp [h1, h2, h3]
        · simp [h1, h2, h3]
      · have h2' : ¬ (l.length : Int) = k := by omega
        simp [h1, h2, h2']
    · simp [h1]
def rBothSpec : Vm.Spec := fun args h Q => ∃ (tag : UInt8) (k v : Nat) (key val : List UInt8), v ≤ 15 ∧ k ≤ 15 ∧ key.length ≤ 1073741824 ∧ val.length ≤ 1073741824 ∧ args = [.agg [.sl 1 (key.map encB), .sl 1 (val.map encB)], .v (.int .u8 tag.toNat), .v (.int .i64 k), .v (.int .i64 v)] ∧
  (∀ p, bothOf tag k v key val = some p → Q (.tup [.sl 1 (p.1.map encI), .sl 1 (p.2.map encI), .v (.bool true)]) h) ∧ (bothOf tag k v key val = none → ∀ a b : List Int, Q (.tup [.sl 1 (a.map encI), .sl 1 (b.map encI), .v (.bool false)]) h)
def isI (x : AV) (l : List Int) : Prop := x = .sl 1 (l.map encI) ∨ (l = [] ∧ x = .v (.slice none 0 0))
theorem isI.ga {x : AV} {l : List Int} (h : isI x l) : Ga x (.sl 1 (l.map encI)) := by
  rcases h with rfl | ⟨rfl, rfl⟩
  · exact .refl _
  · exact .nil 1
def rBoth0 : Vm.Spec := fun args h Q => ∃ (tag : UInt8) (k v : Nat) (key val : List UInt8), v ≤ 15 ∧ k ≤ 15 ∧ key.length ≤ 1073741824 ∧ val.length ≤ 1073741824 ∧ args = [.agg [.sl 1 (key.map encB), .sl 1 (val.map encB)], .v (.int .u8 tag.toNat), .v (.int .i64 k), .v (.int .i64 v)] ∧
  (∀ p, bothOf tag k v key val = some p → Q (.tup [.sl 1 (p.1.map encI), .sl 1 (p.2.map encI), .v (.bool true)]) h) ∧ (bothOf tag k v key val = none → ∀ (a b : List Int) (x y : AV), isI x a → isI y b → Q (.tup [x, y, .v (.bool false)]) h)
set_option maxRecDepth 20000 in
theorem does_rBoth0 : Does Tryz.prog 191 rBoth0 := by
  refine does_of_awp (good_cons does_rOf (good_cons does_rUnpack good_nil)) Tryz.func191 rfl (by decide +kernel) (by decide +kernel) ?_
  rintro args h Q ⟨tag, k, v, key, val, hv, hk, hkl, hvl, rfl, hq1, hq2⟩
  refine ⟨by simp [Tryz.f191], ?_⟩
  rw [awpFunc_some (by rfl)]
  unfold bothOf at hq1 hq2
  simp -dsimp only [Vm.E, List.lookup, Nat.reduceAdd, Nat.reduceBEq, Int.reduceBNe, Int.reduceBEq, Bool.true_beq, Bool.false_beq, Vm.S, Nat.reduceLeDiff, q191]
  refine call_one (S := rOfSpec) rfl _ GaL.rfl ⟨key, tag, k, by omega, rfl, fun hs => ?_, fun l hs => ?_⟩
  · rw [hs] at hq2
    simp -dsimp only [Vm.E, List.lookup, Nat.reduceAdd, Nat.reduceBEq, Int.reduceBNe, Int.reduceBEq, Bool.true_beq, Bool.false_beq, Vm.S, Nat.reduceLeDiff, q191]
    refine call_one (S := unpackSpec) rfl _ GaL.rfl ⟨val, v, by omega, by unfold I64; omega, rfl, ?_⟩
    unfold unpackRes
    rw [if_neg (by omega)]
    by_cases h3 : val.length = 8 * v
    · rw [if_neg (by omega)]
      simp -dsimp only [Vm.E, List.lookup, Nat.reduceAdd, Nat.reduceBEq, Int.reduceBNe, Int.reduceBEq, Bool.true_beq, Bool.false_beq, Vm.S, Nat.reduceLeDiff, q191]
      exact hq2 rfl [] (numsOf val (v : Int).toNat) _ _ (.inr ⟨rfl, rfl⟩) (.inl rfl)
    · rw [if_pos (by omega)]
      simp -dsimp only [Vm.E, List.lookup, Nat.reduceAdd, Nat.reduceBEq, Int.reduceBNe, Int.reduceBEq, Bool.true_beq, Bool.false_beq, Vm.S, Nat.reduceLeDiff, q191]
      exact hq2 rfl [] [] _ _ (.inr ⟨rfl, rfl⟩) (.inr ⟨rfl, rfl⟩)
  · rw [hs] at hq1 hq2
    simp -dsimp only [Vm.E, List.lookup, Nat.reduceAdd, Nat.reduceBEq, Int.reduceBNe, Int.reduceBEq, Bool.true_beq, Bool.false_beq, Vm.S, Nat.reduceLeDiff, q191]
    refine call_one (S := unpackSpec) rfl _ GaL.rfl ⟨val, v, by omega, by unfold I64; omega, rfl, ?_⟩
    unfold unpackRes
    rw [if_neg (by omega)]
    by_cases h3 : val.length = 8 * v
    · rw [if_neg (by omega)]
      simp only [if_pos h3] at hq1
      simp -dsimp only [Vm.E, List.lookup, Nat.reduceAdd, Nat.reduceBEq, Int.reduceBNe, Int.reduceBEq, Bool.true_beq, Bool.false_beq, Vm.S, Nat.reduceLeDiff, q191]
      have := hq1 _ rfl
      simpa using this
    · rw [if_pos (by omega)]
      simp only [if_neg h3] at hq2
      simp -dsimp only [Vm.E, List.lookup, Nat.reduceAdd, Nat.reduceBEq, Int.reduceBNe, Int.reduceBEq, Bool.true_beq, Bool.false_beq, Vm.S, Nat.reduceLeDiff, q191]
      exact hq2 trivial l [] _ _ (.inl rfl) (.inr ⟨rfl, rfl⟩)
theorem does_rBoth : Does Tryz.prog 191 rBothSpec := by
  refine (Does.weak does_rBoth0).imp ?_
  rintro args h Q ⟨tag, k, v, key, val, hv, hk, hkl, hvl, rfl, hq1, hq2⟩
  exact ⟨tag, k, v, key, val, hv, hk, hkl, hvl, rfl, fun p hp => ⟨_, .refl _, hq1 p hp⟩, fun hn a b x y hx hy => ⟨_, .tup (.cons hx.ga (.cons hy.ga GaL.rfl)), hq2 hn a b⟩⟩
theorem both_length {tag : UInt8} {k v : Nat} {key val : List UInt8} {p : List Int × List Int} (h : bothOf tag k v key val = some p) : p.1.length = k ∧ p.2.length = v := by
  unfold bothOf ofOf at h
  split at h
  · rename_i l hl
    split at hl
    · split at hl
      · rename_i hc
        cases hl
        split at h
        · cases h; exact ⟨by show l.length = k; omega, by simp [numsOf]⟩
        · cases h
      · cases hl
    · cases hl
  · cases h
def rNodeOfSpec : Vm.Spec := fun args h Q => ∃ key val : List UInt8, key.length ≤ 1073741824 ∧ val.length ≤ 1073741824 ∧ args = [.agg [.sl 1 (key.map encB), .sl 1 (val.map encB)]] ∧
  (∀ n, nodeOf key val = some n → Q (.tup [.agg (ndCells n), .v (.bool true)]) h) ∧ (nodeOf key val = none → Q (.tup [.agg (ndCells .zero), .v (.bool false)]) h)
set_option maxRecDepth 20000 in
theorem does_rNodeOf : Does Tryz.prog 131 rNodeOfSpec := by
  refine does_of_awp (good_cons does_rBoth good_nil) Tryz.func131 rfl (by decide +kernel) (by decide +kernel) ?_
  rintro args h Q ⟨key, val, hk, hv, rfl, hq1, hq2⟩
  refine ⟨by simp [Tryz.f131], ?_⟩
  rw [awpFunc_some (by rfl)]
  unfold nodeOf at hq1 hq2
  rw [both_nums] at hq1 hq2
  simp only [ndCells, Nd.zero] at hq2
  simp -dsimp only [Vm.E, List.lookup, Nat.reduceAdd, Nat.reduceBEq, Int.reduceBNe, Int.reduceBEq, Bool.true_beq, Bool.false_beq, Vm.S, Nat.reduceLeDiff, q131]
  refine call_one (S := rBothSpec) rfl _ GaL.rfl ⟨78, 2, 10, key, val, by omega, by omega, hk, hv, rfl, fun p hp => ?_, fun hp a b => ?_⟩
  · have hlen := both_length hp
    obtain ⟨kl, vl⟩ := p
    obtain ⟨hl1, hl2⟩ := hlen
    match kl, hl1 with
    | [k0, k1], _ =>
    match vl, hl2 with
    | [b0, b1, b2, b3, b4, b5, b6, b7, b8, b9], _ =>
    rw [hp] at hq1
    have hq1' := hq1 _ rfl
    clear hq1 hq2 hp
    simp -dsimp only [Vm.E, List.lookup, Nat.reduceAdd, Nat.reduceBEq, Int.reduceBNe, Int.reduceBEq, Bool.true_beq, Bool.false_beq, Vm.S, Nat.reduceLeDiff, q131]
    refine draw_cont [] (.take 0 (.take 1 (.take 2 (.take 3 (.take 4 (.take 5 (.take 6 (.take 7 (.take 8 (.take 9 (.take 10 (.take 11 (.take 12 (.take 13 (.take 14 (.take 15 (.take 16 (.take 17 (.take 18 (.take 19 (.take 20 (.take 21 (.take 22 (.take 23 (.take 24 (.take 25 (.take 26 (.take 27 (.take 28 (.take 29 (.take 30 (.take 31 (.take 32 (.take 33 (.take 34 (.take 35 (.take 36 (.alt 37 (.alt 38 (.alt 39 (.done) .stop) .stop) .stop)))))))))))))))))))))))))))))))))))))) (fun s h2 => h2 = h ∧ s 2 = .box (ndCells ⟨k0, k1, b0, b1, b2, b3 != 0, b4, b5, b6, b7, b8, b9⟩) ∧ s 3 = .v (.bool true)) (by kernel_rfl) (by kernel_rfl) (by kernel_rfl) (by decide) ?_ ?_
    · simp -dsimp only [Vm.E, List.lookup, Nat.reduceAdd, Nat.reduceBEq, Int.reduceBNe, Int.reduceBEq, Bool.true_beq, Bool.false_beq, Vm.S, Nat.reduceLeDiff, q131, idx_lit, idxE_some, Int.reduceToNat, Int.reduceLE, decide_true, eq_self, encI]
      repeat' first | rfl | exact True.intro | refine And.intro ?_ ?_
    · rintro s h2 ⟨rfl, e2, e3⟩
      simp only [ndCells] at e2
      simp -dsimp only [Vm.E, List.lookup, Nat.reduceAdd, Nat.reduceBEq, Int.reduceBNe, Int.reduceBEq, Bool.true_beq, Bool.false_beq, Vm.S, Nat.reduceLeDiff, q131, e2, e3]
      exact hq1'
  · rw [hp] at hq2
    simp -dsimp only [Vm.E, List.lookup, Nat.reduceAdd, Nat.reduceBEq, Int.reduceBNe, Int.reduceBEq, Bool.true_beq, Bool.false_beq, Vm.S, Nat.reduceLeDiff, q131]
    exact hq2 rfl
def rtPutSpec : Vm.Spec := fun args h Q => ∃ (R : RId) (f : Fun) (n : Nd), args = [.ptr R.iv 0, .agg (ndCells n)] ∧ n.ok ∧ isRef h R f ∧ f.n ≤ 536870912 ∧ ∀ h', isRef h' R (upd f (ndK n) (some (ndV n))) → Same h h' (rFoot R) → Q (.v (.int .i64 0)) h'
theorem does_rtPut : Does Tryz.prog 55 rtPutSpec := by
  refine does_of_awp (good_cons does_rNode (good_cons does_rPut good_nil)) Tryz.func55 rfl (by decide +kernel) (by decide +kernel) ?_
  rintro args h Q ⟨R, f, n, rfl, hn, hR, hfn, hq⟩
  refine ⟨by simp [Tryz.f55], ?_⟩
  rw [awpFunc_some (by rfl)]
  simp only [ndCells]
  simp -dsimp only [Vm.E, List.lookup, Nat.reduceAdd, Nat.reduceBEq, Int.reduceBNe, Int.reduceBEq, Bool.true_beq, Bool.false_beq, Vm.S, Nat.reduceLeDiff, q55]
  refine call_one (S := nodeSpec) rfl _ GaL.rfl ⟨n, hn, rfl, ?_⟩
  simp -dsimp only [Vm.E, List.lookup, Nat.reduceAdd, Nat.reduceBEq, Int.reduceBNe, Int.reduceBEq, Bool.true_beq, Bool.false_beq, Vm.S, Nat.reduceLeDiff, q55]
  refine call_one (S := rPutSpec) rfl _ GaL.rfl ⟨R, f, ndK n, ndV n, rfl, hR, hfn, fun _ h' g1 g2 => ?_, fun hc => by rw [right_nd] at hc; cases hc⟩
  simp -dsimp only [Vm.E, List.lookup, Nat.reduceAdd, Nat.reduceBEq, Int.reduceBNe, Int.reduceBEq, Bool.true_beq, Bool.false_beq, Vm.S, Nat.reduceLeDiff, q55]
  exact hq h' g1 g2
theorem nodeOf_nil (key : List UInt8) : nodeOf key [] = none := by
  unfold nodeOf numsPair
  cases splitOf key with
  | none => rfl
  | some p => simp
def rtGetSpec : Vm.Spec := fun args h Q => ∃ (R : RId) (f : Fun) (year id : Int), args = [.ptr R.iv 0, .v (.int .i64 year), .v (.int .i64 id)] ∧ isRef h R f ∧ f.n ≤ 536870912 ∧
  (∀ n, nodeAt f year id = some n → Q (.tup [.agg (ndCells n), .v (.bool true)]) h) ∧ (nodeAt f year id = none → Q (.tup [.agg (ndCells .zero), .v (.bool false)]) h)
set_option maxRecDepth 20000 in
theorem does_rtGet : Does Tryz.prog 58 rtGetSpec := by
  refine does_of_awp (good_cons does_rKey (good_cons does_rGet (good_cons does_rNodeOf good_nil))) Tryz.func58 rfl (by decide +kernel) (by decide +kernel) ?_
  rintro args h Q ⟨R, f, year, id, rfl, hR, hfn, hq1, hq2⟩
  refine ⟨by simp [Tryz.f58], ?_⟩
  rw [awpFunc_some (by rfl)]
  unfold nodeAt at hq1 hq2
  simp only [ndCells, Nd.zero] at hq2
  simp -dsimp only [Vm.E, List.lookup, Nat.reduceAdd, Nat.reduceBEq, Int.reduceBNe, Int.reduceBEq, Bool.true_beq, Bool.false_beq, Vm.S, Nat.reduceLeDiff, q58]
  refine bs_intro zr3 (by decide) (by decide) rfl rfl (by simp [solid, AV.cells]) ?_
  simp -dsimp only [Vm.E, List.lookup, Nat.reduceAdd, Nat.reduceBEq, Int.reduceBNe, Int.reduceBEq, Bool.true_beq, Bool.false_beq, Vm.S, Nat.reduceLeDiff, q58]
  refine call_one (S := keySpec) rfl _ GaL.rfl ⟨78, [year, id], by simp, rfl, ?_⟩
  have hk := key2_length 78 year id
  generalize keyOf 78 [year, id] = key at hk hq1 hq2 ⊢
  simp -dsimp only [Vm.E, List.lookup, Nat.reduceAdd, Nat.reduceBEq, Int.reduceBNe, Int.reduceBEq, Bool.true_beq, Bool.false_beq, Vm.S, Nat.reduceLeDiff, q58]
  refine call_one (S := rGetSpec) rfl _ GaL.rfl ⟨R, f, key, rfl, hR, hfn, fun val hf => ?_, fun hf => ?_⟩
  · have hvl := (hR.len hf).2
    rw [hf] at hq1 hq2
    simp -dsimp only [Vm.E, List.lookup, Nat.reduceAdd, Nat.reduceBEq, Int.reduceBNe, Int.reduceBEq, Bool.true_beq, Bool.false_beq, Vm.S, Nat.reduceLeDiff, q58]
    refine call_one (S := rNodeOfSpec) rfl _ GaL.rfl ⟨key, val, by omega, by omega, rfl, fun n hn => ?_, fun hn => ?_⟩
    · have hq1 : ∀ m, (if n.year = year ∧ n.id = id then some n else none) = some m → Q (.tup [.agg (ndCells m), .v (.bool true)]) h := fun m hm => hq1 m (by simp only [hn]; exact hm)
      have hq2 := fun hm : (if n.year = year ∧ n.id = id then some n else none) = none => hq2 (by simp only [hn]; exact hm)
      simp only [ndCells] at hq1
      simp only [ndCells]
      simp -dsimp only [Vm.E, List.lookup, Nat.reduceAdd, Nat.reduceBEq, Int.reduceBNe, Int.reduceBEq, Bool.true_beq, Bool.false_beq, Vm.S, Nat.reduceLeDiff, q58]
      cases c1 : (n.year != year)
      · have d1 : n.year = year := by simpa using c1
        simp -dsimp only [Vm.E, List.lookup, Nat.reduceAdd, Nat.reduceBEq, Int.reduceBNe, Int.reduceBEq, Bool.true_beq, Bool.false_beq, Vm.S, Nat.reduceLeDiff, q58]
        cases c2 : (n.id != id)
        · have d2 : n.id = id := by simpa using c2
          simp -dsimp only [Vm.E, List.lookup, Nat.reduceAdd, Nat.reduceBEq, Int.reduceBNe, Int.reduceBEq, Bool.true_beq, Bool.false_beq, Vm.S, Nat.reduceLeDiff, q58]
          exact hq1 n (if_pos ⟨d1, d2⟩)
        · have d2 : ¬ n.id = id := by simpa using c2
          simp -dsimp only [Vm.E, List.lookup, Nat.reduceAdd, Nat.reduceBEq, Int.reduceBNe, Int.reduceBEq, Bool.true_beq, Bool.false_beq, Vm.S, Nat.reduceLeDiff, q58]
          exact hq2 (if_neg fun hc => d2 hc.2)
      · have d1 : ¬ n.year = year := by simpa using c1
        simp -dsimp only [Vm.E, List.lookup, Nat.reduceAdd, Nat.reduceBEq, Int.reduceBNe, Int.reduceBEq, Bool.true_beq, Bool.false_beq, Vm.S, Nat.reduceLeDiff, q58]
        exact hq2 (if_neg fun hc => d1 hc.1)
    · have hq2 := hq2 (by simp only [hn])
      simp only [ndCells, Nd.zero]
      simp -dsimp only [Vm.E, List.lookup, Nat.reduceAdd, Nat.reduceBEq, Int.reduceBNe, Int.reduceBEq, Bool.true_beq, Bool.false_beq, Vm.S, Nat.reduceLeDiff, q58]
      exact hq2
  · rw [hf] at hq2
    simp -dsimp only [Vm.E, List.lookup, Nat.reduceAdd, Nat.reduceBEq, Int.reduceBNe, Int.reduceBEq, Bool.true_beq, Bool.false_beq, Vm.S, Nat.reduceLeDiff, q58]
    refine call_one (S := rNodeOfSpec) rfl _ GaL.rfl ⟨key, [], by omega, by simp, rfl, fun n hn => (by rw [nodeOf_nil] at hn; cases hn), fun hn => ?_⟩
    simp only [ndCells, Nd.zero]
    simp -dsimp only [Vm.E, List.lookup, Nat.reduceAdd, Nat.reduceBEq, Int.reduceBNe, Int.reduceBEq, Bool.true_beq, Bool.false_beq, Vm.S, Nat.reduceLeDiff, q58]
    exact hq2 rfl
def rtAllSpec : Vm.Spec := fun args h Q => ∃ (R : RId) (f : Fun) (year : Int), args = [.ptr R.iv 0, .v (.int .i64 year)] ∧ isRef h R f ∧ f.n ≤ 536870912 ∧
  ∀ l, ScanIs f (keyOf 78 [year]) l → l.length ≤ f.n → Q (.own true 25 12 ((allN year l).map ndAv)) h
set_option maxRecDepth 20000 in
theorem does_rtAll : Does Tryz.prog 64 rtAllSpec := by
  refine does_of_awp (good_cons does_rKey (good_cons does_rScan (good_cons does_rNodeOf good_nil))) Tryz.func64 rfl (by decide +kernel) (by decide +kernel) ?_
  rintro args h Q ⟨R, f, year, rfl, hR, hfn, hq⟩
  refine ⟨by simp [Tryz.f64], ?_⟩
  rw [awpFunc_some (by rfl)]
  simp -dsimp only [Vm.E, List.lookup, Nat.reduceAdd, Nat.reduceBEq, Int.reduceBNe, Int.reduceBEq, Bool.true_beq, Bool.false_beq, Vm.S, Nat.reduceLeDiff, q64]
  refine bs_intro zr3 (by decide) (by decide) rfl rfl (by simp [solid, AV.cells]) ?_
  simp -dsimp only [Vm.E, List.lookup, Nat.reduceAdd, Nat.reduceBEq, Int.reduceBNe, Int.reduceBEq, Bool.true_beq, Bool.false_beq, Vm.S, Nat.reduceLeDiff, q64]
  refine call_one (S := keySpec) rfl _ GaL.rfl ⟨78, [year], by simp, rfl, ?_⟩
  simp -dsimp only [Vm.E, List.lookup, Nat.reduceAdd, Nat.reduceBEq, Int.reduceBNe, Int.reduceBEq, Bool.true_beq, Bool.false_beq, Vm.S, Nat.reduceLeDiff, q64]
  refine call_one (S := rScanSpec) rfl _ GaL.rfl ⟨R, f, keyOf 78 [year], rfl, by rw [key1_length]; decide, hR, hfn, fun l hsc hln => ?_⟩
  simp -dsimp only [Vm.E, List.lookup, Nat.reduceAdd, Nat.reduceBEq, Int.reduceBNe, Int.reduceBEq, Bool.true_beq, Bool.false_beq, Vm.S, Nat.reduceLeDiff, q64]
  refine awp_loop (fun m s h' => ∃ i : Nat, i + m = l.length ∧ h' = h ∧ s = mk [(1, .v (.int .i64 year)), (5, .own true 25 12 ((allN year (l.take (i))).map ndAv)), (6, .own true 47 2 (l.map kvAv)), (7, .v (.int .i64 (i : Nat)))])
    l.length _ (le_mk _ ?_) ⟨0, by omega, rfl, rfl⟩ ?_
  · simp only [List.forall_mem_cons, List.not_mem_nil, false_imp_iff, implies_true, and_true]
    try simp -dsimp only [Vm.E, List.lookup, Nat.reduceAdd, Nat.reduceBEq, Int.reduceBNe, Int.reduceBEq, Bool.true_beq, Bool.false_beq, Vm.S, Nat.reduceLeDiff, q64]
    repeat' first | exact Fg.refl _ | exact Fg.nil _ _ _ (by decide) | refine And.intro ?_ ?_
  · rintro m s h' ⟨i, hi, rfl, rfl⟩
    simp -dsimp only [Vm.E, List.lookup, Nat.reduceAdd, Nat.reduceBEq, Int.reduceBNe, Int.reduceBEq, Bool.true_beq, Bool.false_beq, Vm.S, Nat.reduceLeDiff, q64, List.length_map]
    refine cond_intro (fun hcc => ?_) (fun hcc => ?_)
    · have hlt : i < l.length := by have := of_decide_eq_true hcc; omega
      have hw : IntKind.i64.wrap ((i : Int) + 1) = ((i + 1 : Nat) : Int) := by rw [wrap_i64 (by omega) (by omega)]; simp
      have hget : (l.map kvAv)[i]? = some (kvAv l[i]) := by simp [hlt]
      have est := filterMap_step (inYear year) l i hlt
      have hal : (allN year (l.take i)).length ≤ i := filterMap_le (inYear year) l i
      have hin := ((hsc.2 l[i].1 l[i].2).1 (List.getElem_mem hlt)).1
      have hkl : l[i].1.length ≤ 32 := (hR.len hin).1
      have hvl : l[i].2.length ≤ 120 := (hR.len hin).2
      clear hin
      generalize l[i] = p at hget est hkl hvl
      obtain ⟨k, v⟩ := p
      simp only at hkl hvl
      have e0 : inYear year (k, v) = match nodeOf k v with | some n => if n.year = year then some n else none | none => none := rfl
      simp -dsimp only [Vm.E, List.lookup, Nat.reduceAdd, Nat.reduceBEq, Int.reduceBNe, Int.reduceBEq, Bool.true_beq, Bool.false_beq, Vm.S, Nat.reduceLeDiff, q64]
      refine idxO_intro (by omega) (by simp; omega) ?_
      simp -dsimp only [Vm.E, List.lookup, Nat.reduceAdd, Nat.reduceBEq, Int.reduceBNe, Int.reduceBEq, Bool.true_beq, Bool.false_beq, Vm.S, Nat.reduceLeDiff, q64, Int.toNat_natCast]
      refine eltA_intro hget ?_
      simp only [kvAv]
      simp -dsimp only [Vm.E, List.lookup, Nat.reduceAdd, Nat.reduceBEq, Int.reduceBNe, Int.reduceBEq, Bool.true_beq, Bool.false_beq, Vm.S, Nat.reduceLeDiff, q64, AV.cells, List.drop_zero]
      refine call_one (S := rNodeOfSpec) rfl _ GaL.rfl ⟨k, v, by omega, by omega, rfl, fun n hno => ?_, fun hno => ?_⟩
      · rw [hno] at e0
        simp only at e0
        simp only [ndCells]
        simp -dsimp only [Vm.E, List.lookup, Nat.reduceAdd, Nat.reduceBEq, Int.reduceBNe, Int.reduceBEq, Bool.true_beq, Bool.false_beq, Vm.S, Nat.reduceLeDiff, q64]
        cases c1 : (n.year == year)
        · have d1 : ¬ n.year = year := by simpa using c1
          rw [if_neg d1] at e0
          rw [e0] at est
          simp -dsimp only [Vm.E, List.lookup, Nat.reduceAdd, Nat.reduceBEq, Int.reduceBNe, Int.reduceBEq, Bool.true_beq, Bool.false_beq, Vm.S, Nat.reduceLeDiff, q64]
          refine kept_intro ⟨l.length - (i + 1), by omega, _, le_mk [(1, .v (.int .i64 year)), (5, .own true 25 12 ((allN year (l.take (i + 1))).map ndAv)), (6, .own true 47 2 (l.map kvAv)), (7, .v (.int .i64 (i + 1 : Nat)))] ?_, i + 1, by omega, rfl, rfl⟩
          simp only [List.forall_mem_cons, List.not_mem_nil, false_imp_iff, implies_true, and_true, hw, est, Option.toList, List.append_nil]
          try simp -dsimp only [Vm.E, List.lookup, Nat.reduceAdd, Nat.reduceBEq, Int.reduceBNe, Int.reduceBEq, Bool.true_beq, Bool.false_beq, Vm.S, Nat.reduceLeDiff, q64, hw, est, Option.toList, List.append_nil]
          repeat' first | exact Fg.refl _ | exact Fg.nil _ _ _ (by decide) | refine And.intro ?_ ?_
        · have d1 : n.year = year := by simpa using c1
          rw [if_pos d1] at e0
          rw [e0] at est
          simp -dsimp only [Vm.E, List.lookup, Nat.reduceAdd, Nat.reduceBEq, Int.reduceBNe, Int.reduceBEq, Bool.true_beq, Bool.false_beq, Vm.S, Nat.reduceLeDiff, q64]
          refine bs_intro zr25 (by decide) (by decide) rfl rfl (by simp [solid, AV.cells]) ?_
          simp -dsimp only [Vm.E, List.lookup, Nat.reduceAdd, Nat.reduceBEq, Int.reduceBNe, Int.reduceBEq, Bool.true_beq, Bool.false_beq, Vm.S, Nat.reduceLeDiff, q64]
          refine app_sl Tryz.underlying23 (by simp [AV.cells]) (by simp only [List.length_map, List.length_cons, List.length_nil]; omega) ?_
          simp -dsimp only [Vm.E, List.lookup, Nat.reduceAdd, Nat.reduceBEq, Int.reduceBNe, Int.reduceBEq, Bool.true_beq, Bool.false_beq, Vm.S, Nat.reduceLeDiff, q64]
          refine kept_intro ⟨l.length - (i + 1), by omega, _, le_mk [(1, .v (.int .i64 year)), (5, .own true 25 12 ((allN year (l.take (i + 1))).map ndAv)), (6, .own true 47 2 (l.map kvAv)), (7, .v (.int .i64 (i + 1 : Nat)))] ?_, i + 1, by omega, rfl, rfl⟩
          simp only [List.forall_mem_cons, List.not_mem_nil, false_imp_iff, implies_true, and_true, hw, est, Option.toList, List.map_append, List.map_cons, List.map_nil, ndAv, ndCells]
          try simp -dsimp only [Vm.E, List.lookup, Nat.reduceAdd, Nat.reduceBEq, Int.reduceBNe, Int.reduceBEq, Bool.true_beq, Bool.false_beq, Vm.S, Nat.reduceLeDiff, q64, hw, est, Option.toList, List.map_append, List.map_cons, List.map_nil, ndAv, ndCells]
          repeat' first | exact Fg.refl _ | exact Fg.nil _ _ _ (by decide) | refine And.intro ?_ ?_
      · rw [hno] at e0
        simp only at e0
        rw [e0] at est
        simp only [ndCells]
        simp -dsimp only [Vm.E, List.lookup, Nat.reduceAdd, Nat.reduceBEq, Int.reduceBNe, Int.reduceBEq, Bool.true_beq, Bool.false_beq, Vm.S, Nat.reduceLeDiff, q64]
        refine kept_intro ⟨l.length - (i + 1), by omega, _, le_mk [(1, .v (.int .i64 year)), (5, .own true 25 12 ((allN year (l.take (i + 1))).map ndAv)), (6, .own true 47 2 (l.map kvAv)), (7, .v (.int .i64 (i + 1 : Nat)))] ?_, i + 1, by omega, rfl, rfl⟩
        simp only [List.forall_mem_cons, List.not_mem_nil, false_imp_iff, implies_true, and_true, hw, est, Option.toList, List.append_nil]
        try simp -dsimp only [Vm.E, List.lookup, Nat.reduceAdd, Nat.reduceBEq, Int.reduceBNe, Int.reduceBEq, Bool.true_beq, Bool.false_beq, Vm.S, Nat.reduceLeDiff, q64, hw, est, Option.toList, List.append_nil]
        repeat' first | exact Fg.refl _ | exact Fg.nil _ _ _ (by decide) | refine And.intro ?_ ?_
    · have hge : ¬ i < l.length := by have := of_decide_eq_false hcc; omega
      simp -dsimp only [Vm.E, List.lookup, Nat.reduceAdd, Nat.reduceBEq, Int.reduceBNe, Int.reduceBEq, Bool.true_beq, Bool.false_beq, Vm.S, Nat.reduceLeDiff, q64]
      rw [List.take_of_length_le (by omega)]
      exact hq l hsc hln
def rtKidsSpec : Vm.Spec := fun args h Q => ∃ (R : RId) (f : Fun) (year id : Int), args = [.ptr R.iv 0, .v (.int .i64 year), .v (.int .i64 id)] ∧ isRef h R f ∧ f.n ≤ 536870912 ∧
  ∀ l, ScanIs f (keyOf 78 [year]) l → l.length ≤ f.n → Q (.own true 25 12 ((kidsN year id l).map ndAv)) h
set_option maxRecDepth 20000 in
theorem does_rtKids : Does Tryz.prog 61 rtKidsSpec := by
  refine does_of_awp (good_cons does_rtAll good_nil) Tryz.func61 rfl (by decide +kernel) (by decide +kernel) ?_
  rintro args h Q ⟨R, f, year, id, rfl, hR, hfn, hq⟩
  refine ⟨by simp [Tryz.f61], ?_⟩
  rw [awpFunc_some (by rfl)]
  simp -dsimp only [Vm.E, List.lookup, Nat.reduceAdd, Nat.reduceBEq, Int.reduceBNe, Int.reduceBEq, Bool.true_beq, Bool.false_beq, Vm.S, Nat.reduceLeDiff, q61]
  refine call_one (S := rtAllSpec) rfl _ GaL.rfl ⟨R, f, year, rfl, hR, hfn, fun l hsc hln => ?_⟩
  have hq := hq l hsc hln
  have hal : (allN year l).length ≤ l.length := List.length_filterMap_le (inYear year) l
  unfold kidsN at hq
  generalize allN year l = ns at hq hal ⊢
  simp -dsimp only [Vm.E, List.lookup, Nat.reduceAdd, Nat.reduceBEq, Int.reduceBNe, Int.reduceBEq, Bool.true_beq, Bool.false_beq, Vm.S, Nat.reduceLeDiff, q61]
  refine awp_loop (fun m s h' => ∃ i : Nat, i + m = ns.length ∧ h' = h ∧ s = mk [(2, .v (.int .i64 id)), (7, .own true 25 12 (((ns.take (i)).filter fun n => n.parent == id).map ndAv)), (8, .own true 25 12 (ns.map ndAv)), (9, .v (.int .i64 (i : Nat)))])
    ns.length _ (le_mk _ ?_) ⟨0, by omega, rfl, rfl⟩ ?_
  · simp only [List.forall_mem_cons, List.not_mem_nil, false_imp_iff, implies_true, and_true]
    try simp -dsimp only [Vm.E, List.lookup, Nat.reduceAdd, Nat.reduceBEq, Int.reduceBNe, Int.reduceBEq, Bool.true_beq, Bool.false_beq, Vm.S, Nat.reduceLeDiff, q61]
    repeat' first | exact Fg.refl _ | exact Fg.nil _ _ _ (by decide) | refine And.intro ?_ ?_
  · rintro m s h' ⟨i, hi, rfl, rfl⟩
    simp -dsimp only [Vm.E, List.lookup, Nat.reduceAdd, Nat.reduceBEq, Int.reduceBNe, Int.reduceBEq, Bool.true_beq, Bool.false_beq, Vm.S, Nat.reduceLeDiff, q61, List.length_map]
    refine cond_intro (fun hcc => ?_) (fun hcc => ?_)
    · have hlt : i < ns.length := by have := of_decide_eq_true hcc; omega
      have hw : IntKind.i64.wrap ((i : Int) + 1) = ((i + 1 : Nat) : Int) := by rw [wrap_i64 (by omega) (by omega)]; simp
      have hget : (ns.map ndAv)[i]? = some (ndAv ns[i]) := by simp [hlt]
      have hfl : ((ns.take i).filter fun n => n.parent == id).length ≤ i := Nat.le_trans (List.length_filter_le ..) (by rw [List.length_take]; omega)
      have est : (ns.take (i + 1)).filter (fun n => n.parent == id) = (ns.take i).filter (fun n => n.parent == id) ++ if ns[i].parent == id then [ns[i]] else [] := by
        rw [List.take_succ_eq_append_getElem hlt, List.filter_append, List.filter_cons, List.filter_nil]
      generalize ns[i] = n at hget est
      simp -dsimp only [Vm.E, List.lookup, Nat.reduceAdd, Nat.reduceBEq, Int.reduceBNe, Int.reduceBEq, Bool.true_beq, Bool.false_beq, Vm.S, Nat.reduceLeDiff, q61]
      refine idxO_intro (by omega) (by simp; omega) ?_
      simp -dsimp only [Vm.E, List.lookup, Nat.reduceAdd, Nat.reduceBEq, Int.reduceBNe, Int.reduceBEq, Bool.true_beq, Bool.false_beq, Vm.S, Nat.reduceLeDiff, q61, Int.toNat_natCast]
      refine eltA_intro hget ?_
      simp only [ndAv, ndCells]
      simp -dsimp only [Vm.E, List.lookup, Nat.reduceAdd, Nat.reduceBEq, Int.reduceBNe, Int.reduceBEq, Bool.true_beq, Bool.false_beq, Vm.S, Nat.reduceLeDiff, q61, AV.cells]
      cases c1 : (n.parent == id)
      · rw [c1] at est
        simp -dsimp only [Vm.E, List.lookup, Nat.reduceAdd, Nat.reduceBEq, Int.reduceBNe, Int.reduceBEq, Bool.true_beq, Bool.false_beq, Vm.S, Nat.reduceLeDiff, q61]
        refine kept_intro ⟨ns.length - (i + 1), by omega, _, le_mk [(2, .v (.int .i64 id)), (7, .own true 25 12 (((ns.take (i + 1)).filter fun n => n.parent == id).map ndAv)), (8, .own true 25 12 (ns.map ndAv)), (9, .v (.int .i64 (i + 1 : Nat)))] ?_, i + 1, by omega, rfl, rfl⟩
        simp only [List.forall_mem_cons, List.not_mem_nil, false_imp_iff, implies_true, and_true, hw, est, if_true, if_false, Bool.false_eq_true, List.append_nil]
        try simp -dsimp only [Vm.E, List.lookup, Nat.reduceAdd, Nat.reduceBEq, Int.reduceBNe, Int.reduceBEq, Bool.true_beq, Bool.false_beq, Vm.S, Nat.reduceLeDiff, q61, hw, est, if_true, if_false, Bool.false_eq_true, List.append_nil]
        repeat' first | exact Fg.refl _ | exact Fg.nil _ _ _ (by decide) | refine And.intro ?_ ?_
      · rw [c1] at est
        simp -dsimp only [Vm.E, List.lookup, Nat.reduceAdd, Nat.reduceBEq, Int.reduceBNe, Int.reduceBEq, Bool.true_beq, Bool.false_beq, Vm.S, Nat.reduceLeDiff, q61]
        refine idxO_intro (by omega) (by simp; omega) ?_
        simp -dsimp only [Vm.E, List.lookup, Nat.reduceAdd, Nat.reduceBEq, Int.reduceBNe, Int.reduceBEq, Bool.true_beq, Bool.false_beq, Vm.S, Nat.reduceLeDiff, q61, Int.toNat_natCast]
        refine eltA_intro hget ?_
        simp only [ndAv, ndCells]
        simp -dsimp only [Vm.E, List.lookup, Nat.reduceAdd, Nat.reduceBEq, Int.reduceBNe, Int.reduceBEq, Bool.true_beq, Bool.false_beq, Vm.S, Nat.reduceLeDiff, q61, AV.cells, List.drop_zero]
        refine bs_intro zr25 (by decide) (by decide) rfl rfl (by simp [solid, AV.cells]) ?_
        simp -dsimp only [Vm.E, List.lookup, Nat.reduceAdd, Nat.reduceBEq, Int.reduceBNe, Int.reduceBEq, Bool.true_beq, Bool.false_beq, Vm.S, Nat.reduceLeDiff, q61]
        refine app_sl Tryz.underlying23 (by simp [AV.cells]) (by simp only [List.length_map, List.length_cons, List.length_nil]; omega) ?_
        simp -dsimp only [Vm.E, List.lookup, Nat.reduceAdd, Nat.reduceBEq, Int.reduceBNe, Int.reduceBEq, Bool.true_beq, Bool.false_beq, Vm.S, Nat.reduceLeDiff, q61]
        refine kept_intro ⟨ns.length - (i + 1), by omega, _, le_mk [(2, .v (.int .i64 id)), (7, .own true 25 12 (((ns.take (i + 1)).filter fun n => n.parent == id).map ndAv)), (8, .own true 25 12 (ns.map ndAv)), (9, .v (.int .i64 (i + 1 : Nat)))] ?_, i + 1, by omega, rfl, rfl⟩
        simp only [List.forall_mem_cons, List.not_mem_nil, false_imp_iff, implies_true, and_true, hw, est, if_true, List.map_append, List.map_cons, List.map_nil, ndAv, ndCells]
        try simp -dsimp only [Vm.E, List.lookup, Nat.reduceAdd, Nat.reduceBEq, Int.reduceBNe, Int.reduceBEq, Bool.true_beq, Bool.false_beq, Vm.S, Nat.reduceLeDiff, q61, hw, est, if_true, List.map_append, List.map_cons, List.map_nil, ndAv, ndCells]
        repeat' first | exact Fg.refl _ | exact Fg.nil _ _ _ (by decide) | refine And.intro ?_ ?_
    · have hge : ¬ i < ns.length := by have := of_decide_eq_false hcc; omega
      simp -dsimp only [Vm.E, List.lookup, Nat.reduceAdd, Nat.reduceBEq, Int.reduceBNe, Int.reduceBEq, Bool.true_beq, Bool.false_beq, Vm.S, Nat.reduceLeDiff, q61]
      rw [List.take_of_length_le (by omega)]
      exact hq
def rtPathSpec : Vm.Spec := fun args h Q => ∃ (R : RId) (f : Fun) (year id : Int), args = [.ptr R.iv 0, .v (.int .i64 year), .v (.int .i64 id)] ∧ isRef h R f ∧ f.n ≤ 536870912 ∧ Q (.own true 25 12 ((pathOf f year 8 id).map ndAv)) h
set_option maxRecDepth 20000 in
theorem does_rtPath : Does Tryz.prog 62 rtPathSpec := by
  refine does_of_awp (good_cons does_rtGet good_nil) Tryz.func62 rfl (by decide +kernel) (by decide +kernel) ?_
  rintro args h Q ⟨R, f, year, id, rfl, hR, hfn, hq⟩
  refine ⟨by simp [Tryz.f62], ?_⟩
  rw [awpFunc_some (by rfl)]
  simp -dsimp only [Vm.E, List.lookup, Nat.reduceAdd, Nat.reduceBEq, Int.reduceBNe, Int.reduceBEq, Bool.true_beq, Bool.false_beq, Vm.S, Nat.reduceLeDiff, q62]
  refine awp_loop (fun m s h' => ∃ (id' : Int) (done : List Nd), done.length + m = 8 ∧ h' = h ∧ done ++ pathOf f year m id' = pathOf f year 8 id ∧ s = mk [(0, .ptr R.iv 0), (1, .v (.int .i64 year)), (2, .v (.int .i64 id')), (7, .own true 25 12 (done.map ndAv))])
    8 _ (le_mk _ ?_) ⟨id, [], rfl, rfl, rfl, rfl⟩ ?_
  · simp only [List.forall_mem_cons, List.not_mem_nil, false_imp_iff, implies_true, and_true]
    try simp -dsimp only [Vm.E, List.lookup, Nat.reduceAdd, Nat.reduceBEq, Int.reduceBNe, Int.reduceBEq, Bool.true_beq, Bool.false_beq, Vm.S, Nat.reduceLeDiff, q62]
    repeat' first | exact Fg.refl _ | exact Fg.nil _ _ _ (by decide) | refine And.intro ?_ ?_
  · rintro m s h' ⟨id', done, hd, rfl, hp, rfl⟩
    simp -dsimp only [Vm.E, List.lookup, Nat.reduceAdd, Nat.reduceBEq, Int.reduceBNe, Int.reduceBEq, Bool.true_beq, Bool.false_beq, Vm.S, Nat.reduceLeDiff, q62, List.length_map]
    refine cond_intro (fun hc => ?_) (fun hc => ?_)
    · have hlt : done.length < 8 := by have := of_decide_eq_true hc; omega
      have hm : m = (m - 1) + 1 := by omega
      generalize m - 1 = k at hm
      rw [hm] at hp
      simp only [pathOf] at hp
      simp -dsimp only [Vm.E, List.lookup, Nat.reduceAdd, Nat.reduceBEq, Int.reduceBNe, Int.reduceBEq, Bool.true_beq, Bool.false_beq, Vm.S, Nat.reduceLeDiff, q62]
      refine call_one (S := rtGetSpec) rfl _ GaL.rfl ⟨R, f, year, id', rfl, hR, hfn, fun n hn => ?_, fun hn => ?_⟩
      · rw [hn] at hp
        have hp : done ++ (n :: if n.parent = 0 then [] else pathOf f year k n.parent) = pathOf f year 8 id := hp
        simp only [ndCells]
        simp -dsimp only [Vm.E, List.lookup, Nat.reduceAdd, Nat.reduceBEq, Int.reduceBNe, Int.reduceBEq, Bool.true_beq, Bool.false_beq, Vm.S, Nat.reduceLeDiff, q62]
        refine bs_intro zr25 (by decide) (by decide) rfl rfl (by simp [solid, AV.cells]) ?_
        simp -dsimp only [Vm.E, List.lookup, Nat.reduceAdd, Nat.reduceBEq, Int.reduceBNe, Int.reduceBEq, Bool.true_beq, Bool.false_beq, Vm.S, Nat.reduceLeDiff, q62]
        refine app_sl Tryz.underlying23 (by simp [AV.cells]) (by simp only [List.length_map, List.length_cons, List.length_nil]; omega) ?_
        have ed : done.map ndAv ++ [AV.agg [.v (.int .i64 n.year), .v (.int .i64 n.id), .v (.int .i64 n.parent), .v (.int .i64 n.fund), .v (.int .i64 n.obj), .v (.bool n.abs), .v (.int .i64 n.limit), .v (.int .i64 n.pre), .v (.int .i64 n.enc), .v (.int .i64 n.exp), .v (.int .i64 n.lapsed), .v (.int .i64 n.carried)]] = (done ++ [n]).map ndAv := by
          simp [ndAv, ndCells]
        simp -dsimp only [Vm.E, List.lookup, Nat.reduceAdd, Nat.reduceBEq, Int.reduceBNe, Int.reduceBEq, Bool.true_beq, Bool.false_beq, Vm.S, Nat.reduceLeDiff, q62, ed]
        cases c1 : (n.parent == 0)
        · have d1 : ¬ n.parent = 0 := by simpa using c1
          rw [if_neg d1] at hp
          simp -dsimp only [Vm.E, List.lookup, Nat.reduceAdd, Nat.reduceBEq, Int.reduceBNe, Int.reduceBEq, Bool.true_beq, Bool.false_beq, Vm.S, Nat.reduceLeDiff, q62]
          refine kept_intro ⟨k, by omega, _, le_mk [(0, .ptr R.iv 0), (1, .v (.int .i64 year)), (2, .v (.int .i64 n.parent)), (7, .own true 25 12 ((done ++ [n]).map ndAv))] ?_, n.parent, done ++ [n], by simp only [List.length_append, List.length_cons, List.length_nil]; omega, rfl, by rw [List.append_assoc]; exact hp, rfl⟩
          simp only [List.forall_mem_cons, List.not_mem_nil, false_imp_iff, implies_true, and_true]
          try simp -dsimp only [Vm.E, List.lookup, Nat.reduceAdd, Nat.reduceBEq, Int.reduceBNe, Int.reduceBEq, Bool.true_beq, Bool.false_beq, Vm.S, Nat.reduceLeDiff, q62]
          repeat' first | exact Fg.refl _ | exact Fg.nil _ _ _ (by decide) | refine And.intro ?_ ?_
        · have d1 : n.parent = 0 := by simpa using c1
          rw [if_pos d1] at hp
          simp -dsimp only [Vm.E, List.lookup, Nat.reduceAdd, Nat.reduceBEq, Int.reduceBNe, Int.reduceBEq, Bool.true_beq, Bool.false_beq, Vm.S, Nat.reduceLeDiff, q62]
          rw [← hp] at hq
          exact hq
      · rw [hn] at hp
        have hp : done ++ [] = pathOf f year 8 id := hp
        simp only [ndCells]
        simp -dsimp only [Vm.E, List.lookup, Nat.reduceAdd, Nat.reduceBEq, Int.reduceBNe, Int.reduceBEq, Bool.true_beq, Bool.false_beq, Vm.S, Nat.reduceLeDiff, q62]
        rw [← hp, List.append_nil] at hq
        exact hq
    · have hge : ¬ done.length < 8 := by have := of_decide_eq_false hc; omega
      have hm : m = 0 := by omega
      rw [hm] at hp
      have hp : done ++ [] = pathOf f year 8 id := hp
      simp -dsimp only [Vm.E, List.lookup, Nat.reduceAdd, Nat.reduceBEq, Int.reduceBNe, Int.reduceBEq, Bool.true_beq, Bool.false_beq, Vm.S, Nat.reduceLeDiff, q62]
      rw [← hp, List.append_nil] at hq
      exact hq
theorem does_rtUsed : Does Tryz.prog 57 usedSpec := by
  refine does_of_awp good_nil Tryz.func57 rfl (by decide +kernel) (by decide +kernel) ?_
  rintro args h Q ⟨n, rfl, hq⟩
  refine ⟨by simp [Tryz.f57], ?_⟩
  rw [awpFunc_some (by rfl)]
  unfold usedOf at hq
  simp only [ndCells]
  simp -dsimp only [Vm.E, List.lookup, Nat.reduceAdd, Nat.reduceBEq, Int.reduceBNe, Int.reduceBEq, Bool.true_beq, Bool.false_beq, Vm.S, Nat.reduceLeDiff, q57]
  exact hq
theorem does_rtGiven : Does Tryz.prog 66 givenSpec := by
  refine does_of_awp good_nil Tryz.func66 rfl (by decide +kernel) (by decide +kernel) ?_
  rintro args h Q ⟨l, hl, rfl, hq⟩
  refine ⟨by simp [Tryz.f66], ?_⟩
  rw [awpFunc_some (by rfl)]
  simp -dsimp only [Vm.E, List.lookup, Nat.reduceAdd, Nat.reduceBEq, Int.reduceBNe, Int.reduceBEq, Bool.true_beq, Bool.false_beq, Vm.S, Nat.reduceLeDiff, q66]
  refine awp_loop (fun m s h' => ∃ i : Nat, i + m = l.length ∧ h' = h ∧ s = mk [(0, .sl 12 (l.map ndAv)), (3, .v (.int .i64 (w64s ((l.take i).map (·.limit))))), (4, .v (.int .i64 i))])
    l.length _ (le_mk _ ?_) ⟨0, by omega, rfl, rfl⟩ ?_
  · simp only [List.forall_mem_cons, List.not_mem_nil, false_imp_iff, implies_true, and_true]
    try simp -dsimp only [Vm.E, List.lookup, Nat.reduceAdd, Nat.reduceBEq, Int.reduceBNe, Int.reduceBEq, Bool.true_beq, Bool.false_beq, Vm.S, Nat.reduceLeDiff, q66]
    repeat' first | exact Fg.refl _ | exact Fg.nil _ _ _ (by decide) | refine And.intro ?_ ?_
  · rintro m s h' ⟨i, hi, rfl, rfl⟩
    simp -dsimp only [Vm.E, List.lookup, Nat.reduceAdd, Nat.reduceBEq, Int.reduceBNe, Int.reduceBEq, Bool.true_beq, Bool.false_beq, Vm.S, Nat.reduceLeDiff, q66]
    refine cond_intro (fun hcc => ?_) (fun hcc => ?_)
    · have hlt : i < l.length := by have := of_decide_eq_true hcc; omega
      have hw : IntKind.i64.wrap ((i : Int) + 1) = ((i + 1 : Nat) : Int) := by rw [wrap_i64 (by omega) (by omega)]; simp
      have est : w64s ((l.take (i + 1)).map (·.limit)) = w64 (w64s ((l.take i).map (·.limit)) + l[i].limit) := by
        rw [List.take_succ_eq_append_getElem hlt, List.map_append, w64s, List.foldl_append]; rfl
      simp -dsimp only [Vm.E, List.lookup, Nat.reduceAdd, Nat.reduceBEq, Int.reduceBNe, Int.reduceBEq, Bool.true_beq, Bool.false_beq, Vm.S, Nat.reduceLeDiff, q66]
      refine idx_map ndAv l i hlt ?_
      generalize l[i] = n at est
      simp only [ndAv, ndCells]
      simp -dsimp only [Vm.E, List.lookup, Nat.reduceAdd, Nat.reduceBEq, Int.reduceBNe, Int.reduceBEq, Bool.true_beq, Bool.false_beq, Vm.S, Nat.reduceLeDiff, q66, AV.cells]
      refine kept_intro ⟨l.length - (i + 1), by omega, _, le_mk [(0, .sl 12 (l.map ndAv)), (3, .v (.int .i64 (w64s ((l.take (i + 1)).map (·.limit))))), (4, .v (.int .i64 (i + 1 : Nat)))] ?_, i + 1, by omega, rfl, rfl⟩
      simp only [List.forall_mem_cons, List.not_mem_nil, false_imp_iff, implies_true, and_true, hw, est]
      try simp -dsimp only [Vm.E, List.lookup, Nat.reduceAdd, Nat.reduceBEq, Int.reduceBNe, Int.reduceBEq, Bool.true_beq, Bool.false_beq, Vm.S, Nat.reduceLeDiff, q66, hw, est]
      repeat' first | exact Fg.refl _ | exact Fg.nil _ _ _ (by decide) | refine And.intro ?_ ?_
    · have hge : ¬ i < l.length := by have := of_decide_eq_false hcc; omega
      simp -dsimp only [Vm.E, List.lookup, Nat.reduceAdd, Nat.reduceBEq, Int.reduceBNe, Int.reduceBEq, Bool.true_beq, Bool.false_beq, Vm.S, Nat.reduceLeDiff, q66]
      rw [List.take_of_length_le (by omega)]
      exact hq
end Go.Proofs.Lx
/- Documents, pre-encumbrances: docs.Put, pre. -/
set_option linter.unusedSimpArgs false
set_option linter.unusedVariables false
namespace Go.Proofs.Lx
open Go.Vm
attribute [local irreducible] awpArr awpBin awpMake awpAppend awpCvX awpStrOf awpBinX awpSlice awpBS awpStore awpAlloc awpCopy awpIndex awpDraw awpIdxX awpFa awpField awpLookup awpUpdate awpDelete awpClear awpRange awpNext awpEntry awpBuild awpClearS awpIdxL awpTree appB awpIdxO eltA treeA
def askLn (p : Ln → Bool) : Vm.Spec := fun args h Q => ∃ x : Ln, args = [lnAv x] ∧ Q (.v (.bool (p x))) h
def ixSpecLn (T : Tab) : Vm.Spec := fun args h Q => ∃ (g : FuncId) (p : Ln → Bool) (l : List Ln), T g = some (askLn p) ∧ l.length ≤ 9223372036854775807 ∧ args = [.sl 4 (l.map lnAv), .clo g []] ∧ ∀ i : Int, (l.any p = true ↔ 0 ≤ i) → Q (.v (.int .i64 i)) h
theorem does_ixLn {T : Tab} (hT : Good T) : Does Tryz.prog 196 (ixSpecLn T) := by
  refine does_of_awp hT Tryz.func196 rfl (by decide +kernel) (by decide +kernel) ?_
  rintro args h Q ⟨g, p, l, hg, hl, rfl, hq⟩
  refine ⟨by simp [Tryz.f196], ?_⟩
  rw [awpFunc_some (by rfl)]
  simp -dsimp only [Vm.E, List.lookup, Nat.reduceAdd, Nat.reduceBEq, Int.reduceBNe, Int.reduceBEq, Bool.true_beq, Bool.false_beq, Vm.S, Nat.reduceLeDiff, q196]
  refine awp_loop (fun m s h' => ∃ i : Nat, i + m = l.length ∧ h' = h ∧ (∀ j (hj : j < l.length), j < i → p l[j] = false) ∧ s = mk [(0, .sl 4 (l.map lnAv)), (1, .clo g []), (7, .v (.int .i64 l.length)), (8, .v (.int .i64 i))])
    l.length _ (le_mk _ ?_) ⟨0, by omega, rfl, fun j _ hj => by omega, rfl⟩ ?_
  · simp only [List.forall_mem_cons, List.not_mem_nil, false_imp_iff, implies_true, and_true]
    try simp -dsimp only [Vm.E, List.lookup, Nat.reduceAdd, Nat.reduceBEq, Int.reduceBNe, Int.reduceBEq, Bool.true_beq, Bool.false_beq, Vm.S, Nat.reduceLeDiff, q196]
    repeat' first | exact Fg.refl _ | exact Fg.nil _ _ _ (by decide) | refine And.intro ?_ ?_
  · rintro m s h' ⟨i, hi, rfl, hb, rfl⟩
    simp -dsimp only [Vm.E, List.lookup, Nat.reduceAdd, Nat.reduceBEq, Int.reduceBNe, Int.reduceBEq, Bool.true_beq, Bool.false_beq, Vm.S, Nat.reduceLeDiff, q196]
    refine cond_intro (fun hcc => ?_) (fun hcc => ?_)
    · have hlt : i < l.length := by have := of_decide_eq_true hcc; omega
      obtain ⟨x, hx⟩ : ∃ x, l[i] = x := ⟨_, rfl⟩
      have hw : IntKind.i64.wrap ((i : Int) + 1) = ((i + 1 : Nat) : Int) := by rw [wrap_i64 (by omega) (by omega)]; simp
      simp -dsimp only [Vm.E, List.lookup, Nat.reduceAdd, Nat.reduceBEq, Int.reduceBNe, Int.reduceBEq, Bool.true_beq, Bool.false_beq, Vm.S, Nat.reduceLeDiff, q196]
      refine idx_map lnAv l i hlt ?_
      simp only [hx, lnAv, lnCells]
      simp -dsimp only [Vm.E, List.lookup, Nat.reduceAdd, Nat.reduceBEq, Int.reduceBNe, Int.reduceBEq, Bool.true_beq, Bool.false_beq, Vm.S, Nat.reduceLeDiff, q196, AV.cells]
      refine call_one (S := askLn p) hg _ GaL.rfl ⟨x, rfl, ?_⟩
      cases hp : p x
      · simp -dsimp only [Vm.E, List.lookup, Nat.reduceAdd, Nat.reduceBEq, Int.reduceBNe, Int.reduceBEq, Bool.true_beq, Bool.false_beq, Vm.S, Nat.reduceLeDiff, q196]
        refine kept_intro ⟨l.length - (i + 1), by omega, _, le_mk [(0, .sl 4 (l.map lnAv)), (1, .clo g []), (7, .v (.int .i64 l.length)), (8, .v (.int .i64 (i + 1 : Nat)))] ?_, i + 1, by omega, rfl, fun j hj hj2 => ?_, rfl⟩
        · simp only [List.forall_mem_cons, List.not_mem_nil, false_imp_iff, implies_true, and_true, hw]
          try simp -dsimp only [Vm.E, List.lookup, Nat.reduceAdd, Nat.reduceBEq, Int.reduceBNe, Int.reduceBEq, Bool.true_beq, Bool.false_beq, Vm.S, Nat.reduceLeDiff, q196, hw]
          repeat' first | exact Fg.refl _ | exact Fg.nil _ _ _ (by decide) | refine And.intro ?_ ?_
        · by_cases hji : j = i
          · subst hji; rw [hx]; exact hp
          · exact hb j hj (by omega)
      · simp -dsimp only [Vm.E, List.lookup, Nat.reduceAdd, Nat.reduceBEq, Int.reduceBNe, Int.reduceBEq, Bool.true_beq, Bool.false_beq, Vm.S, Nat.reduceLeDiff, q196]
        exact hq _ ⟨fun _ => by omega, fun _ => List.any_eq_true.2 ⟨x, hx ▸ List.getElem_mem hlt, hp⟩⟩
    · have hge : ¬ i < l.length := by have := of_decide_eq_false hcc; omega
      simp -dsimp only [Vm.E, List.lookup, Nat.reduceAdd, Nat.reduceBEq, Int.reduceBNe, Int.reduceBEq, Bool.true_beq, Bool.false_beq, Vm.S, Nat.reduceLeDiff, q196]
      refine hq _ ⟨fun hm => ?_, fun h0 => by omega⟩
      obtain ⟨x, hx, hp⟩ := List.any_eq_true.1 hm
      obtain ⟨j, hj, rfl⟩ := List.getElem_of_mem hx
      rw [hb j hj (by omega)] at hp; cases hp
def hasSpecLn (T : Tab) : Vm.Spec := fun args h Q => ∃ (g : FuncId) (p : Ln → Bool) (l : List Ln), T g = some (askLn p) ∧ l.length ≤ 9223372036854775807 ∧ args = [.sl 4 (l.map lnAv), .clo g []] ∧ Q (.v (.bool (l.any p))) h
theorem does_hasLn {T : Tab} (hT : Good T) : Does Tryz.prog 144 (hasSpecLn T) := by
  refine does_of_awp (good_cons (does_ixLn hT) good_nil) Tryz.func144 rfl (by decide +kernel) (by decide +kernel) ?_
  rintro args h Q ⟨g, p, l, hg, hl, rfl, hq⟩
  refine ⟨by simp [Tryz.f144], ?_⟩
  rw [awpFunc_some (by rfl)]
  simp -dsimp only [Vm.E, List.lookup, Nat.reduceAdd, Nat.reduceBEq, Int.reduceBNe, Int.reduceBEq, Bool.true_beq, Bool.false_beq, Vm.S, Nat.reduceLeDiff, q144]
  refine call_one (S := ixSpecLn T) rfl _ GaL.rfl ⟨g, p, l, hg, hl, rfl, fun i hi => ?_⟩
  have e : decide (i ≥ 0) = l.any p := by
    cases hx : l.any p
    · rw [hx] at hi; exact decide_eq_false fun h0 => by have := hi.2 h0; cases this
    · exact decide_eq_true (hi.1 hx)
  simp -dsimp only [Vm.E, List.lookup, Nat.reduceAdd, Nat.reduceBEq, Int.reduceBNe, Int.reduceBEq, Bool.true_beq, Bool.false_beq, Vm.S, Nat.reduceLeDiff, q144, e]
  exact hq
def rightA (n : Int) : Bool := decide (1 ≤ n) && decide (n ≤ 9007199254740992)
theorem does_amtRight : Does Tryz.prog 148 (predSpec rightA) := by
  refine does_of_awp good_nil Tryz.func148 rfl (by decide +kernel) (by decide +kernel) ?_
  rintro args h Q ⟨n, rfl, hq⟩
  refine ⟨by simp [Tryz.f148], ?_⟩
  rw [awpFunc_some (by rfl)]
  unfold rightA at hq
  simp -dsimp only [Vm.E, List.lookup, Nat.reduceAdd, Nat.reduceBEq, Int.reduceBNe, Int.reduceBEq, Bool.true_beq, Bool.false_beq, Vm.S, Nat.reduceLeDiff, q148]
  cases c1 : decide (1 ≤ n)
  · rw [c1] at hq
    simp -dsimp only [Vm.E, List.lookup, Nat.reduceAdd, Nat.reduceBEq, Int.reduceBNe, Int.reduceBEq, Bool.true_beq, Bool.false_beq, Vm.S, Nat.reduceLeDiff, q148]
    exact hq
  · rw [c1] at hq
    simp -dsimp only [Vm.E, List.lookup, Nat.reduceAdd, Nat.reduceBEq, Int.reduceBNe, Int.reduceBEq, Bool.true_beq, Bool.false_beq, Vm.S, Nat.reduceLeDiff, q148]
    exact hq
def wrongL (x : Ln) : Bool := !rightA x.amt
theorem does_wrongL : Does Tryz.prog 147 (askLn wrongL) := by
  refine does_of_awp (good_cons does_amtRight good_nil) Tryz.func147 rfl (by decide +kernel) (by decide +kernel) ?_
  rintro args h Q ⟨x, rfl, hq⟩
  refine ⟨by simp [Tryz.f147], ?_⟩
  rw [awpFunc_some (by rfl)]
  unfold wrongL at hq
  simp only [lnAv, lnCells]
  simp -dsimp only [Vm.E, List.lookup, Nat.reduceAdd, Nat.reduceBEq, Int.reduceBNe, Int.reduceBEq, Bool.true_beq, Bool.false_beq, Vm.S, Nat.reduceLeDiff, q147]
  refine call_one (S := predSpec rightA) rfl _ GaL.rfl ⟨x.amt, rfl, ?_⟩
  simp -dsimp only [Vm.E, List.lookup, Nat.reduceAdd, Nat.reduceBEq, Int.reduceBNe, Int.reduceBEq, Bool.true_beq, Bool.false_beq, Vm.S, Nat.reduceLeDiff, q147]
  exact hq
def wrongT : Tab := tab [(147, askLn wrongL)]
theorem good_wrongT : Good wrongT := good_cons does_wrongL good_nil
/-- What is wrong with lines. -/
def preCheck (l : List Ln) : Int := if l.length = 0 ∨ 6 < l.length ∨ l.any wrongL = true then 1 else 0
def preCheckSpec : Vm.Spec := fun args h Q => ∃ l : List Ln, l.length ≤ 9223372036854775807 ∧ args = [.sl 4 (l.map lnAv)] ∧ Q (.v (.int .i64 (preCheck l))) h
theorem does_preCheck : Does Tryz.prog 82 preCheckSpec := by
  refine does_of_awp (good_cons (does_hasLn good_wrongT) good_nil) Tryz.func82 rfl (by decide +kernel) (by decide +kernel) ?_
  rintro args h Q ⟨l, hl, rfl, hq⟩
  refine ⟨by simp [Tryz.f82], ?_⟩
  rw [awpFunc_some (by rfl)]
  unfold preCheck at hq
  simp -dsimp only [Vm.E, List.lookup, Nat.reduceAdd, Nat.reduceBEq, Int.reduceBNe, Int.reduceBEq, Bool.true_beq, Bool.false_beq, Vm.S, Nat.reduceLeDiff, q82]
  cases c0 : ((l.length : Int) == 0)
  · have d0 : ¬ l.length = 0 := by intro e; rw [e] at c0; simp at c0
    simp -dsimp only [Vm.E, List.lookup, Nat.reduceAdd, Nat.reduceBEq, Int.reduceBNe, Int.reduceBEq, Bool.true_beq, Bool.false_beq, Vm.S, Nat.reduceLeDiff, q82]
    cases c6 : decide ((l.length : Int) > 6)
    · have d6 : ¬ 6 < l.length := by have := of_decide_eq_false c6; omega
      simp -dsimp only [Vm.E, List.lookup, Nat.reduceAdd, Nat.reduceBEq, Int.reduceBNe, Int.reduceBEq, Bool.true_beq, Bool.false_beq, Vm.S, Nat.reduceLeDiff, q82]
      refine call_one (S := hasSpecLn wrongT) rfl _ GaL.rfl ⟨147, wrongL, l, rfl, hl, rfl, ?_⟩
      cases ca : l.any wrongL
      · rw [ca, if_neg (by simp [d0, d6])] at hq
        simp -dsimp only [Vm.E, List.lookup, Nat.reduceAdd, Nat.reduceBEq, Int.reduceBNe, Int.reduceBEq, Bool.true_beq, Bool.false_beq, Vm.S, Nat.reduceLeDiff, q82]
        exact hq
      · rw [ca, if_pos (.inr (.inr rfl))] at hq
        simp -dsimp only [Vm.E, List.lookup, Nat.reduceAdd, Nat.reduceBEq, Int.reduceBNe, Int.reduceBEq, Bool.true_beq, Bool.false_beq, Vm.S, Nat.reduceLeDiff, q82]
        exact hq
    · have d6 : 6 < l.length := by have := of_decide_eq_true c6; omega
      rw [if_pos (.inr (.inl d6))] at hq
      simp -dsimp only [Vm.E, List.lookup, Nat.reduceAdd, Nat.reduceBEq, Int.reduceBNe, Int.reduceBEq, Bool.true_beq, Bool.false_beq, Vm.S, Nat.reduceLeDiff, q82]
      exact hq
  · have d0 : l.length = 0 := by have : (l.length : Int) = 0 := by simpa using c0
                                 omega
    rw [if_pos (.inl d0)] at hq
    simp -dsimp only [Vm.E, List.lookup, Nat.reduceAdd, Nat.reduceBEq, Int.reduceBNe, Int.reduceBEq, Bool.true_beq, Bool.false_beq, Vm.S, Nat.reduceLeDiff, q82]
    exact hq
structure Dl where
  node : Int
  orig : Int
  liq : Int
  can : Int
def dlCells (x : Dl) : List AV := [.v (.int .i64 x.node), .v (.int .i64 x.orig), .v (.int .i64 x.liq), .v (.int .i64 x.can)]
def dlAv (x : Dl) : AV := .agg (dlCells x)
def Dl.ok (x : Dl) : Prop := I64 x.node ∧ I64 x.orig ∧ I64 x.liq ∧ I64 x.can
structure Dc where
  id : Int
  kind : Int
  year : Int
  frm : Int
  lines : Int
def dcCells (d : Dc) : List AV := [.v (.int .i64 d.id), .v (.int .i64 d.kind), .v (.int .i64 d.year), .v (.int .i64 d.frm), .v (.int .i64 d.lines)]
def Dc.ok (d : Dc) : Prop := I64 d.id ∧ I64 d.kind ∧ I64 d.year ∧ I64 d.frm ∧ I64 d.lines
def dlK (id i : Int) : List UInt8 := keyOf 76 [id, i]
def dlV (x : Dl) : List UInt8 := packOf [x.node, x.orig, x.liq, x.can]
def dcK (id : Int) : List UInt8 := keyOf 68 [id]
def dcV (d : Dc) : List UInt8 := packOf [d.kind, d.year, d.frm, d.lines]
theorem dlK_length (id i : Int) : (dlK id i).length = 9 := by simp [dlK, keyOf, packs, be_length]
theorem dcK_length (id : Int) : (dcK id).length = 5 := by simp [dcK, keyOf, packs, be_length]
theorem dlV_length (x : Dl) : (dlV x).length = 32 := by simp [dlV, packOf, packs, be_length]
theorem dcV_length (d : Dc) : (dcV d).length = 32 := by simp [dcV, packOf, packs, be_length]
theorem right_dl (id i : Int) (x : Dl) : rightKV (dlK id i) (dlV x) = true := by simp [rightKV, dlK_length, dlV_length]
theorem right_dc (id : Int) (d : Dc) : rightKV (dcK id) (dcV d) = true := by simp [rightKV, dcK_length, dcV_length]
theorem does_docLines : Does Tryz.prog 199 (tabSpec 76 2 4) := by
  refine does_of_awp good_nil Tryz.func199 rfl (by decide +kernel) (by decide +kernel) ?_
  rintro args h Q ⟨rfl, hq⟩
  refine ⟨by simp [Tryz.f199], ?_⟩
  rw [awpFunc_some (by rfl)]
  simp -dsimp only [Vm.E, List.lookup, Nat.reduceAdd, Nat.reduceBEq, Int.reduceBNe, Int.reduceBEq, Bool.true_beq, Bool.false_beq, Vm.S, Nat.reduceLeDiff, q199]
  exact hq
theorem does_documents : Does Tryz.prog 200 (tabSpec 68 1 4) := by
  refine does_of_awp good_nil Tryz.func200 rfl (by decide +kernel) (by decide +kernel) ?_
  rintro args h Q ⟨rfl, hq⟩
  refine ⟨by simp [Tryz.f200], ?_⟩
  rw [awpFunc_some (by rfl)]
  simp -dsimp only [Vm.E, List.lookup, Nat.reduceAdd, Nat.reduceBEq, Int.reduceBNe, Int.reduceBEq, Bool.true_beq, Bool.false_beq, Vm.S, Nat.reduceLeDiff, q200]
  exact hq
def rdlSpec : Vm.Spec := fun args h Q => ∃ (id i : Int) (x : Dl), I64 id ∧ I64 i ∧ x.ok ∧ args = [.v (.int .i64 id), .v (.int .i64 i), dlAv x] ∧ Q (.agg [.sl 1 ((dlK id i).map encB), .sl 1 ((dlV x).map encB)]) h
set_option maxRecDepth 20000 in
theorem does_recDl : Does Tryz.prog 151 rdlSpec := by
  refine does_of_awp (good_cons does_docLines (good_cons does_pair good_nil)) Tryz.func151 rfl (by decide +kernel) (by decide +kernel) ?_
  rintro args h Q ⟨id, i, x, hid, hi, ⟨o1, o2, o3, o4⟩, rfl, hq⟩
  refine ⟨by simp [Tryz.f151], ?_⟩
  rw [awpFunc_some (by rfl)]
  simp only [dlAv, dlCells]
  simp -dsimp only [Vm.E, List.lookup, Nat.reduceAdd, Nat.reduceBEq, Int.reduceBNe, Int.reduceBEq, Bool.true_beq, Bool.false_beq, Vm.S, Nat.reduceLeDiff, q151]
  refine draw_cont [5] (.take 1 (.take 2 (.take 3 (.take 4 (.take 5 (.take 6 (.take 7 (.take 8 (.take 9 (.take 10 (.alt 0 (.alt 11 (.alt 12 (.alt 13 (.done) .stop) .stop) .stop) (.alt 11 (.alt 0 (.alt 12 (.alt 13 (.done) .stop) .stop) .stop) (.stop))))))))))))) (fun s h2 => h2 = h ∧ s 6 = .box [.sl 1 ((dlK id i).map encB), .sl 1 ((dlV x).map encB)]) (by kernel_rfl) (by kernel_rfl) (by kernel_rfl) (by decide) ?_ ?_
  · have hm : ∀ m ∈ [id, i, x.node, x.orig, x.liq, x.can], I64 m := fun m hm => by
      simp only [List.mem_cons, List.not_mem_nil, or_false] at hm
      rcases hm with rfl | rfl | rfl | rfl | rfl | rfl <;> assumption
    have e1 : keyOf 76 (([id, i, x.node, x.orig, x.liq, x.can] : List Int).take 2) = dlK id i := rfl
    have e2 : packOf (([id, i, x.node, x.orig, x.liq, x.can] : List Int).drop 2) = dlV x := rfl
    repeat' first
      | with_reducible exact True.intro
      | simp -dsimp only [Vm.E, List.lookup, Nat.reduceAdd, Nat.reduceBEq, Int.reduceBNe, Int.reduceBEq, Bool.true_beq, Bool.false_beq, Vm.S, Nat.reduceLeDiff, q151, e1, e2]
      | refine call_one (S := tabSpec 76 2 4) rfl _ GaL.rfl ⟨rfl, ?_⟩
      | refine call_one (S := pairSpec) rfl _ GaL.rfl ⟨76, 2, 4, [id, i, x.node, x.orig, x.liq, x.can], by simp, by simp, hm, rfl, ?_⟩
      | refine bs_intro zr3 (by decide) (by decide) rfl rfl (by simp [solid, AV.cells]) ?_
      | refine tree_alt ?_ ?_
      | repeat' first | rfl | exact True.intro | refine And.intro ?_ ?_
  · rintro s h2 ⟨rfl, e6⟩
    simp -dsimp only [Vm.E, List.lookup, Nat.reduceAdd, Nat.reduceBEq, Int.reduceBNe, Int.reduceBEq, Bool.true_beq, Bool.false_beq, Vm.S, Nat.reduceLeDiff, q151, e6]
    exact hq
def rdcSpec : Vm.Spec := fun args h Q => ∃ d : Dc, d.ok ∧ args = [.agg (dcCells d)] ∧ Q (.agg [.sl 1 ((dcK d.id).map encB), .sl 1 ((dcV d).map encB)]) h
set_option maxRecDepth 20000 in
theorem does_recDc : Does Tryz.prog 152 rdcSpec := by
  refine does_of_awp (good_cons does_documents (good_cons does_pair good_nil)) Tryz.func152 rfl (by decide +kernel) (by decide +kernel) ?_
  rintro args h Q ⟨d, ⟨o1, o2, o3, o4, o5⟩, rfl, hq⟩
  refine ⟨by simp [Tryz.f152], ?_⟩
  rw [awpFunc_some (by rfl)]
  simp only [dcCells]
  simp -dsimp only [Vm.E, List.lookup, Nat.reduceAdd, Nat.reduceBEq, Int.reduceBNe, Int.reduceBEq, Bool.true_beq, Bool.false_beq, Vm.S, Nat.reduceLeDiff, q152]
  refine draw_cont [1] (.take 1 (.take 2 (.take 3 (.take 4 (.take 5 (.take 6 (.take 7 (.take 8 (.take 9 (.take 10 (.alt 0 (.alt 11 (.alt 12 (.alt 13 (.done) .stop) .stop) .stop) (.alt 11 (.alt 0 (.alt 12 (.alt 13 (.done) .stop) .stop) .stop) (.stop))))))))))))) (fun s h2 => h2 = h ∧ s 2 = .box [.sl 1 ((dcK d.id).map encB), .sl 1 ((dcV d).map encB)]) (by kernel_rfl) (by kernel_rfl) (by kernel_rfl) (by decide) ?_ ?_
  · have hm : ∀ m ∈ [d.id, d.kind, d.year, d.frm, d.lines], I64 m := fun m hm => by
      simp only [List.mem_cons, List.not_mem_nil, or_false] at hm
      rcases hm with rfl | rfl | rfl | rfl | rfl <;> assumption
    have e1 : keyOf 68 (([d.id, d.kind, d.year, d.frm, d.lines] : List Int).take 1) = dcK d.id := rfl
    have e2 : packOf (([d.id, d.kind, d.year, d.frm, d.lines] : List Int).drop 1) = dcV d := rfl
    repeat' first
      | with_reducible exact True.intro
      | simp -dsimp only [Vm.E, List.lookup, Nat.reduceAdd, Nat.reduceBEq, Int.reduceBNe, Int.reduceBEq, Bool.true_beq, Bool.false_beq, Vm.S, Nat.reduceLeDiff, q152, e1, e2]
      | refine call_one (S := tabSpec 68 1 4) rfl _ GaL.rfl ⟨rfl, ?_⟩
      | refine call_one (S := pairSpec) rfl _ GaL.rfl ⟨68, 1, 4, [d.id, d.kind, d.year, d.frm, d.lines], by simp, by simp, hm, rfl, ?_⟩
      | refine bs_intro zr3 (by decide) (by decide) rfl rfl (by simp [solid, AV.cells]) ?_
      | refine tree_alt ?_ ?_
      | repeat' first | rfl | exact True.intro | refine And.intro ?_ ?_
  · rintro s h2 ⟨rfl, e2⟩
    simp -dsimp only [Vm.E, List.lookup, Nat.reduceAdd, Nat.reduceBEq, Int.reduceBNe, Int.reduceBEq, Bool.true_beq, Bool.false_beq, Vm.S, Nat.reduceLeDiff, q152, e2]
    exact hq
def dsetSpec : Vm.Spec := fun args h Q => ∃ (V : VId) (f : Fun) (k v : List UInt8), args = [.agg [.ptr V.iv 0], .agg [.sl 1 (k.map encB), .sl 1 (v.map encB)]] ∧ rightKV k v = true ∧ isView h V f ∧ ∀ h', isView h' V (upd f k (some v)) → Same h h' [V.ic] → Q (.v (.int .i64 0)) h'
theorem does_dset : Does Tryz.prog 150 dsetSpec := by
  refine does_of_awp (good_cons does_vput good_nil) Tryz.func150 rfl (by decide +kernel) (by decide +kernel) ?_
  rintro args h Q ⟨V, f, k, v, rfl, hr, hV, hq⟩
  refine ⟨by simp [Tryz.f150], ?_⟩
  rw [awpFunc_some (by rfl)]
  simp -dsimp only [Vm.E, List.lookup, Nat.reduceAdd, Nat.reduceBEq, Int.reduceBNe, Int.reduceBEq, Bool.true_beq, Bool.false_beq, Vm.S, Nat.reduceLeDiff, q150]
  refine call_one (S := vputSpec) rfl _ GaL.rfl ⟨V, f, k, v, rfl, hV, fun _ h' g1 g2 => ?_, fun hc => by rw [hr] at hc; cases hc⟩
  simp -dsimp only [Vm.E, List.lookup, Nat.reduceAdd, Nat.reduceBEq, Int.reduceBNe, Int.reduceBEq, Bool.true_beq, Bool.false_beq, Vm.S, Nat.reduceLeDiff, q150]
  exact hq h' g1 g2
/-- A document's lines, put. -/
def putLines (id : Int) : Nat → List Dl → Fun → Fun
  | _, [], f => f
  | i, x :: r, f => putLines id (i + 1) r (upd f (dlK id i) (some (dlV x)))
def docsF (f : Fun) (id : Int) (d : Dc) (l : List Dl) : Fun := upd (putLines id 0 l (upd f (seqKey 2) (some (be 8 id)))) (dcK id) (some (dcV { d with id := id, lines := l.length }))
def docsPut (f : Fun) (d : Dc) (l : List Dl) : Fun × Int × Int :=
  if l.length = 0 ∨ 6 < l.length then (f, 0, 1)
  else if readOf f (seqKey 2) < 0 ∨ 4294967294 < readOf f (seqKey 2) then (f, 0, 9)
  else (docsF f (readOf f (seqKey 2) + 1) d l, readOf f (seqKey 2) + 1, 0)
def docsPutSpec : Vm.Spec := fun args h Q => ∃ (V : VId) (f : Fun) (d : Dc) (l : List Dl), d.ok ∧ (∀ x ∈ l, x.ok) ∧ args = [.ptr V.iv 0, .agg (dcCells d), .sl 4 (l.map dlAv)] ∧ isView h V f ∧
  ∀ h', isView h' V (docsPut f d l).1 → Same h h' [V.ic] → Q (.tup [.v (.int .i64 (docsPut f d l).2.1), .v (.int .i64 (docsPut f d l).2.2)]) h'
set_option maxRecDepth 20000 in
set_option maxHeartbeats 1000000 in
theorem does_docsPut : Does Tryz.prog 85 docsPutSpec := by
  refine does_of_awp (good_cons does_seqNext (good_cons does_recDl (good_cons does_dset (good_cons does_recDc good_nil)))) Tryz.func85 rfl (by decide +kernel) (by decide +kernel) ?_
  rintro args h Q ⟨V, f, d, l, hd, hx, rfl, hV, hq⟩
  refine ⟨by simp [Tryz.f85], ?_⟩
  rw [awpFunc_some (by rfl)]
  unfold docsPut at hq
  simp only [dcCells]
  simp -dsimp only [Vm.E, List.lookup, Nat.reduceAdd, Nat.reduceBEq, Int.reduceBNe, Int.reduceBEq, Bool.true_beq, Bool.false_beq, Vm.S, Nat.reduceLeDiff, q85]
  cases c0 : ((l.length : Int) == 0)
  · have d0 : ¬ l.length = 0 := by intro e; rw [e] at c0; simp at c0
    simp -dsimp only [Vm.E, List.lookup, Nat.reduceAdd, Nat.reduceBEq, Int.reduceBNe, Int.reduceBEq, Bool.true_beq, Bool.false_beq, Vm.S, Nat.reduceLeDiff, q85]
    cases c6 : decide ((l.length : Int) > 6)
    · have d6 : ¬ 6 < l.length := by have := of_decide_eq_false c6; omega
      have hr := readOf_range f (seqKey 2)
      simp only [if_neg (show ¬ (l.length = 0 ∨ 6 < l.length) by omega)] at hq
      simp -dsimp only [Vm.E, List.lookup, Nat.reduceAdd, Nat.reduceBEq, Int.reduceBNe, Int.reduceBEq, Bool.true_beq, Bool.false_beq, Vm.S, Nat.reduceLeDiff, q85]
      refine call_one (S := seqNextSpec) rfl _ GaL.rfl ⟨V, f, 2, rfl, hV, fun hr => ?_, fun hn h1 g1 g2 => ?_⟩
      · simp only [if_pos hr] at hq
        simp -dsimp only [Vm.E, List.lookup, Nat.reduceAdd, Nat.reduceBEq, Int.reduceBNe, Int.reduceBEq, Bool.true_beq, Bool.false_beq, Vm.S, Nat.reduceLeDiff, q85]
        exact hq h hV (.refl _ _)
      · simp only [if_neg hn] at hq
        unfold docsF at hq
        have hidr : I64 (readOf f (seqKey 2) + 1) := by unfold I64 at hr ⊢; omega
        generalize readOf f (seqKey 2) + 1 = id at hq g1 hidr ⊢
        generalize upd f (seqKey 2) (some (be 8 id)) = f1 at hq g1
        simp -dsimp only [Vm.E, List.lookup, Nat.reduceAdd, Nat.reduceBEq, Int.reduceBNe, Int.reduceBEq, Bool.true_beq, Bool.false_beq, Vm.S, Nat.reduceLeDiff, q85]
        refine awp_loop (fun m s h' => ∃ (i : Nat) (g : Fun) (s10 : AV), i + m = l.length ∧ isView h' V g ∧ Same h h' [V.ic] ∧ putLines id i (l.drop i) g = putLines id 0 l f1 ∧ (s10 = .box [.ptr V.iv 0] ∨ s10 = .eptr [.ptr V.iv 0]) ∧ s = mk [(2, .sl 4 (l.map dlAv)), (4, .box [.v (.int .i64 d.id), .v (.int .i64 d.kind), .v (.int .i64 d.year), .v (.int .i64 d.frm), .v (.int .i64 d.lines)]), (8, .v (.int .i64 id)), (10, s10), (33, .sl 4 (l.map dlAv)), (34, .v (.int .i64 l.length)), (35, .v (.int .i64 (i : Nat)))])
          l.length _ (le_mk _ ?_) ⟨0, f1, .box [.ptr V.iv 0], by omega, g1, g2, rfl, .inl rfl, rfl⟩ ?_
        · simp only [List.forall_mem_cons, List.not_mem_nil, false_imp_iff, implies_true, and_true]
          try simp -dsimp only [Vm.E, List.lookup, Nat.reduceAdd, Nat.reduceBEq, Int.reduceBNe, Int.reduceBEq, Bool.true_beq, Bool.false_beq, Vm.S, Nat.reduceLeDiff, q85]
          repeat' first | exact Fg.refl _ | exact Fg.nil _ _ _ (by decide) | refine And.intro ?_ ?_
        · clear g1 g2 hV
          rintro m s h' ⟨i, g, s10, hi, hV, hsm, hp, h10, rfl⟩
          simp -dsimp only [Vm.E, List.lookup, Nat.reduceAdd, Nat.reduceBEq, Int.reduceBNe, Int.reduceBEq, Bool.true_beq, Bool.false_beq, Vm.S, Nat.reduceLeDiff, q85]
          refine cond_intro (fun hcc => ?_) (fun hcc => ?_)
          · have hlt : i < l.length := by have := of_decide_eq_true hcc; omega
            have hw : IntKind.i64.wrap ((i : Int) + 1) = ((i + 1 : Nat) : Int) := by rw [wrap_i64 (by omega) (by omega)]; simp
            have hok := hx l[i] (List.getElem_mem hlt)
            rw [List.drop_eq_getElem_cons hlt] at hp
            simp -dsimp only [Vm.E, List.lookup, Nat.reduceAdd, Nat.reduceBEq, Int.reduceBNe, Int.reduceBEq, Bool.true_beq, Bool.false_beq, Vm.S, Nat.reduceLeDiff, q85]
            refine idx_map dlAv l i hlt ?_
            generalize l[i] = x at hok hp
            have hii : I64 (i : Int) := by unfold I64; omega
            simp only [dlAv, dlCells]
            simp -dsimp only [Vm.E, List.lookup, Nat.reduceAdd, Nat.reduceBEq, Int.reduceBNe, Int.reduceBEq, Bool.true_beq, Bool.false_beq, Vm.S, Nat.reduceLeDiff, q85, AV.cells]
            rcases h10 with rfl | rfl
            · refine draw_cont [10, 12] (.take 0 (.take 1 (.take 2 (.take 3 (.alt 4 (.alt 5 (.alt 6 (.done) .stop) .stop) .stop))))) (fun s h2 => isView h2 V (upd g (dlK id i) (some (dlV x))) ∧ Same h' h2 [V.ic] ∧ s 13 = .v (.int .i64 0) ∧ s 2 = .sl 4 (l.map dlAv) ∧ s 4 = .box [.v (.int .i64 d.id), .v (.int .i64 d.kind), .v (.int .i64 d.year), .v (.int .i64 d.frm), .v (.int .i64 d.lines)] ∧ s 8 = .v (.int .i64 id) ∧ s 10 = .eptr [.ptr V.iv 0] ∧ s 33 = .sl 4 (l.map dlAv) ∧ s 34 = .v (.int .i64 l.length) ∧ s 35 = .v (.int .i64 i)) (by kernel_rfl) (by kernel_rfl) (by kernel_rfl) (by decide) ?_ ?_
              · simp -dsimp only [Vm.E, List.lookup, Nat.reduceAdd, Nat.reduceBEq, Int.reduceBNe, Int.reduceBEq, Bool.true_beq, Bool.false_beq, Vm.S, Nat.reduceLeDiff, q85]
                refine call_one (S := rdlSpec) rfl _ GaL.rfl ⟨id, i, x, hidr, hii, hok, rfl, ?_⟩
                simp -dsimp only [Vm.E, List.lookup, Nat.reduceAdd, Nat.reduceBEq, Int.reduceBNe, Int.reduceBEq, Bool.true_beq, Bool.false_beq, Vm.S, Nat.reduceLeDiff, q85]
                refine call_one (S := dsetSpec) rfl _ GaL.rfl ⟨V, g, dlK id i, dlV x, rfl, right_dl id i x, hV, fun h2 g1 g2 => ?_⟩
                simp -dsimp only [Vm.E, List.lookup, Nat.reduceAdd, Nat.reduceBEq, Int.reduceBNe, Int.reduceBEq, Bool.true_beq, Bool.false_beq, Vm.S, Nat.reduceLeDiff, q85]
                refine ⟨g1, g2, ?_⟩
                repeat' first | rfl | exact True.intro | refine And.intro ?_ ?_
              · rintro s h2 ⟨g1, g2, e13, e2, e4, e8, e10, e33, e34, e35⟩
                simp -dsimp only [Vm.E, List.lookup, Nat.reduceAdd, Nat.reduceBEq, Int.reduceBNe, Int.reduceBEq, Bool.true_beq, Bool.false_beq, Vm.S, Nat.reduceLeDiff, q85, e13, e2, e4, e8, e10, e33, e34, e35]
                refine kept_intro ⟨l.length - (i + 1), by omega, _, le_mk [(2, .sl 4 (l.map dlAv)), (4, .box [.v (.int .i64 d.id), .v (.int .i64 d.kind), .v (.int .i64 d.year), .v (.int .i64 d.frm), .v (.int .i64 d.lines)]), (8, .v (.int .i64 id)), (10, .eptr [.ptr V.iv 0]), (33, .sl 4 (l.map dlAv)), (34, .v (.int .i64 l.length)), (35, .v (.int .i64 (i + 1 : Nat)))] ?_, i + 1, _, _, by omega, g1, hsm.trans g2, hp, .inr rfl, rfl⟩
                simp only [List.forall_mem_cons, List.not_mem_nil, false_imp_iff, implies_true, and_true, hw, e2, e4, e8, e10, e33, e34, e35]
                try simp -dsimp only [Vm.E, List.lookup, Nat.reduceAdd, Nat.reduceBEq, Int.reduceBNe, Int.reduceBEq, Bool.true_beq, Bool.false_beq, Vm.S, Nat.reduceLeDiff, q85, hw, e2, e4, e8, e10, e33, e34, e35]
                repeat' first | exact Fg.refl _ | exact Fg.nil _ _ _ (by decide) | refine And.intro ?_ ?_
            · refine draw_cont [12] (.take 0 (.take 1 (.take 2 (.take 3 (.alt 4 (.alt 5 (.alt 6 (.done) .stop) .stop) .stop))))) (fun s h2 => isView h2 V (upd g (dlK id i) (some (dlV x))) ∧ Same h' h2 [V.ic] ∧ s 13 = .v (.int .i64 0) ∧ s 2 = .sl 4 (l.map dlAv) ∧ s 4 = .box [.v (.int .i64 d.id), .v (.int .i64 d.kind), .v (.int .i64 d.year), .v (.int .i64 d.frm), .v (.int .i64 d.lines)] ∧ s 8 = .v (.int .i64 id) ∧ s 10 = .eptr [.ptr V.iv 0] ∧ s 33 = .sl 4 (l.map dlAv) ∧ s 34 = .v (.int .i64 l.length) ∧ s 35 = .v (.int .i64 i)) (by kernel_rfl) (by kernel_rfl) (by kernel_rfl) (by decide) ?_ ?_
              · simp -dsimp only [Vm.E, List.lookup, Nat.reduceAdd, Nat.reduceBEq, Int.reduceBNe, Int.reduceBEq, Bool.true_beq, Bool.false_beq, Vm.S, Nat.reduceLeDiff, q85]
                refine call_one (S := rdlSpec) rfl _ GaL.rfl ⟨id, i, x, hidr, hii, hok, rfl, ?_⟩
                simp -dsimp only [Vm.E, List.lookup, Nat.reduceAdd, Nat.reduceBEq, Int.reduceBNe, Int.reduceBEq, Bool.true_beq, Bool.false_beq, Vm.S, Nat.reduceLeDiff, q85]
                refine call_one (S := dsetSpec) rfl _ GaL.rfl ⟨V, g, dlK id i, dlV x, rfl, right_dl id i x, hV, fun h2 g1 g2 => ?_⟩
                simp -dsimp only [Vm.E, List.lookup, Nat.reduceAdd, Nat.reduceBEq, Int.reduceBNe, Int.reduceBEq, Bool.true_beq, Bool.false_beq, Vm.S, Nat.reduceLeDiff, q85]
                refine ⟨g1, g2, ?_⟩
                repeat' first | rfl | exact True.intro | refine And.intro ?_ ?_
              · rintro s h2 ⟨g1, g2, e13, e2, e4, e8, e10, e33, e34, e35⟩
                simp -dsimp only [Vm.E, List.lookup, Nat.reduceAdd, Nat.reduceBEq, Int.reduceBNe, Int.reduceBEq, Bool.true_beq, Bool.false_beq, Vm.S, Nat.reduceLeDiff, q85, e13, e2, e4, e8, e10, e33, e34, e35]
                refine kept_intro ⟨l.length - (i + 1), by omega, _, le_mk [(2, .sl 4 (l.map dlAv)), (4, .box [.v (.int .i64 d.id), .v (.int .i64 d.kind), .v (.int .i64 d.year), .v (.int .i64 d.frm), .v (.int .i64 d.lines)]), (8, .v (.int .i64 id)), (10, .eptr [.ptr V.iv 0]), (33, .sl 4 (l.map dlAv)), (34, .v (.int .i64 l.length)), (35, .v (.int .i64 (i + 1 : Nat)))] ?_, i + 1, _, _, by omega, g1, hsm.trans g2, hp, .inr rfl, rfl⟩
                simp only [List.forall_mem_cons, List.not_mem_nil, false_imp_iff, implies_true, and_true, hw, e2, e4, e8, e10, e33, e34, e35]
                try simp -dsimp only [Vm.E, List.lookup, Nat.reduceAdd, Nat.reduceBEq, Int.reduceBNe, Int.reduceBEq, Bool.true_beq, Bool.false_beq, Vm.S, Nat.reduceLeDiff, q85, hw, e2, e4, e8, e10, e33, e34, e35]
                repeat' first | exact Fg.refl _ | exact Fg.nil _ _ _ (by decide) | refine And.intro ?_ ?_
          · have hge : ¬ i < l.length := by have := of_decide_eq_false hcc; omega
            rw [List.drop_of_length_le (by omega)] at hp
            have hp : g = putLines id 0 l f1 := hp
            rw [← hp] at hq
            obtain ⟨o1, o2, o3, o4, o5⟩ := hd
            have hdok : ({ d with id := id, lines := (l.length : Int) } : Dc).ok := ⟨hidr, o2, o3, o4, by unfold I64; show -9223372036854775808 ≤ (l.length : Int) ∧ (l.length : Int) ≤ _; omega⟩
            simp -dsimp only [Vm.E, List.lookup, Nat.reduceAdd, Nat.reduceBEq, Int.reduceBNe, Int.reduceBEq, Bool.true_beq, Bool.false_beq, Vm.S, Nat.reduceLeDiff, q85]
            have fin : ∀ {s : Slots}, True := fun {_} => trivial
            rcases h10 with rfl | rfl
            · refine draw_cont [10, 4] (.take 0 (.take 1 (.alt 2 (.alt 3 (.alt 4 (.done) .stop) .stop) .stop))) (fun s h2 => isView h2 V (upd g (dcK id) (some (dcV { d with id := id, lines := l.length }))) ∧ Same h' h2 [V.ic] ∧ s 14 = .v (.int .i64 0) ∧ s 8 = .v (.int .i64 id)) (by kernel_rfl) (by kernel_rfl) (by kernel_rfl) (by decide) ?_ ?_
              · simp -dsimp only [Vm.E, List.lookup, Nat.reduceAdd, Nat.reduceBEq, Int.reduceBNe, Int.reduceBEq, Bool.true_beq, Bool.false_beq, Vm.S, Nat.reduceLeDiff, q85]
                refine call_one (S := rdcSpec) rfl _ GaL.rfl ⟨{ d with id := id, lines := l.length }, hdok, rfl, ?_⟩
                simp -dsimp only [Vm.E, List.lookup, Nat.reduceAdd, Nat.reduceBEq, Int.reduceBNe, Int.reduceBEq, Bool.true_beq, Bool.false_beq, Vm.S, Nat.reduceLeDiff, q85]
                refine call_one (S := dsetSpec) rfl _ GaL.rfl ⟨V, g, dcK id, dcV { d with id := id, lines := l.length }, rfl, right_dc id _, hV, fun h2 g1 g2 => ?_⟩
                simp -dsimp only [Vm.E, List.lookup, Nat.reduceAdd, Nat.reduceBEq, Int.reduceBNe, Int.reduceBEq, Bool.true_beq, Bool.false_beq, Vm.S, Nat.reduceLeDiff, q85]
                refine ⟨g1, g2, ?_⟩
                repeat' first | rfl | exact True.intro | refine And.intro ?_ ?_
              · rintro s h2 ⟨g1, g2, e14, e8⟩
                simp -dsimp only [Vm.E, List.lookup, Nat.reduceAdd, Nat.reduceBEq, Int.reduceBNe, Int.reduceBEq, Bool.true_beq, Bool.false_beq, Vm.S, Nat.reduceLeDiff, q85, e14, e8]
                exact hq h2 g1 (hsm.trans g2)
            · refine draw_cont [4] (.take 0 (.take 1 (.alt 2 (.alt 3 (.alt 4 (.done) .stop) .stop) .stop))) (fun s h2 => isView h2 V (upd g (dcK id) (some (dcV { d with id := id, lines := l.length }))) ∧ Same h' h2 [V.ic] ∧ s 14 = .v (.int .i64 0) ∧ s 8 = .v (.int .i64 id)) (by kernel_rfl) (by kernel_rfl) (by kernel_rfl) (by decide) ?_ ?_
              · simp -dsimp only [Vm.E, List.lookup, Nat.reduceAdd, Nat.reduceBEq, Int.reduceBNe, Int.reduceBEq, Bool.true_beq, Bool.false_beq, Vm.S, Nat.reduceLeDiff, q85]
                refine call_one (S := rdcSpec) rfl _ GaL.rfl ⟨{ d with id := id, lines := l.length }, hdok, rfl, ?_⟩
                simp -dsimp only [Vm.E, List.lookup, Nat.reduceAdd, Nat.reduceBEq, Int.reduceBNe, Int.reduceBEq, Bool.true_beq, Bool.false_beq, Vm.S, Nat.reduceLeDiff, q85]
                refine call_one (S := dsetSpec) rfl _ GaL.rfl ⟨V, g, dcK id, dcV { d with id := id, lines := l.length }, rfl, right_dc id _, hV, fun h2 g1 g2 => ?_⟩
                simp -dsimp only [Vm.E, List.lookup, Nat.reduceAdd, Nat.reduceBEq, Int.reduceBNe, Int.reduceBEq, Bool.true_beq, Bool.false_beq, Vm.S, Nat.reduceLeDiff, q85]
                refine ⟨g1, g2, ?_⟩
                repeat' first | rfl | exact True.intro | refine And.intro ?_ ?_
              · rintro s h2 ⟨g1, g2, e14, e8⟩
                simp -dsimp only [Vm.E, List.lookup, Nat.reduceAdd, Nat.reduceBEq, Int.reduceBNe, Int.reduceBEq, Bool.true_beq, Bool.false_beq, Vm.S, Nat.reduceLeDiff, q85, e14, e8]
                exact hq h2 g1 (hsm.trans g2)
    · have d6 : 6 < l.length := by have := of_decide_eq_true c6; omega
      simp only [if_pos (show l.length = 0 ∨ 6 < l.length from .inr d6)] at hq
      simp -dsimp only [Vm.E, List.lookup, Nat.reduceAdd, Nat.reduceBEq, Int.reduceBNe, Int.reduceBEq, Bool.true_beq, Bool.false_beq, Vm.S, Nat.reduceLeDiff, q85]
      exact hq h hV (.refl _ _)
  · have d0 : l.length = 0 := by
      have : (l.length : Int) = 0 := by simpa using c0
      omega
    simp only [if_pos (show l.length = 0 ∨ 6 < l.length from .inl d0)] at hq
    simp -dsimp only [Vm.E, List.lookup, Nat.reduceAdd, Nat.reduceBEq, Int.reduceBNe, Int.reduceBEq, Bool.true_beq, Bool.false_beq, Vm.S, Nat.reduceLeDiff, q85]
    exact hq h hV (.refl _ _)
def ownL (l : List Ln) : List Dl := l.map fun x => ⟨x.node, x.amt, 0, 0⟩
def linesSpec : Vm.Spec := fun args h Q => ∃ l : List Ln, l.length ≤ 1073741824 ∧ args = [.sl 4 (l.map lnAv)] ∧ Q (.own true 187 4 ((ownL l).map dlAv)) h
theorem does_preLines : Does Tryz.prog 83 linesSpec := by
  refine does_of_awp good_nil Tryz.func83 rfl (by decide +kernel) (by decide +kernel) ?_
  rintro args h Q ⟨l, hl, rfl, hq⟩
  refine ⟨by simp [Tryz.f83], ?_⟩
  rw [awpFunc_some (by rfl)]
  simp -dsimp only [Vm.E, List.lookup, Nat.reduceAdd, Nat.reduceBEq, Int.reduceBNe, Int.reduceBEq, Bool.true_beq, Bool.false_beq, Vm.S, Nat.reduceLeDiff, q83]
  refine awp_loop (fun m s h' => ∃ i : Nat, i + m = l.length ∧ h' = h ∧ s = mk [(3, .own true 187 4 ((ownL (l.take i)).map dlAv)), (6, .sl 4 (l.map lnAv)), (7, .v (.int .i64 l.length)), (8, .v (.int .i64 i))])
    l.length _ (le_mk _ ?_) ⟨0, by omega, rfl, rfl⟩ ?_
  · simp only [List.forall_mem_cons, List.not_mem_nil, false_imp_iff, implies_true, and_true]
    try simp -dsimp only [Vm.E, List.lookup, Nat.reduceAdd, Nat.reduceBEq, Int.reduceBNe, Int.reduceBEq, Bool.true_beq, Bool.false_beq, Vm.S, Nat.reduceLeDiff, q83]
    repeat' first | exact Fg.refl _ | exact Fg.nil _ _ _ (by decide) | refine And.intro ?_ ?_
  · rintro m s h' ⟨i, hi, rfl, rfl⟩
    simp -dsimp only [Vm.E, List.lookup, Nat.reduceAdd, Nat.reduceBEq, Int.reduceBNe, Int.reduceBEq, Bool.true_beq, Bool.false_beq, Vm.S, Nat.reduceLeDiff, q83]
    refine cond_intro (fun hcc => ?_) (fun hcc => ?_)
    · have hlt : i < l.length := by have := of_decide_eq_true hcc; omega
      have hw : IntKind.i64.wrap ((i : Int) + 1) = ((i + 1 : Nat) : Int) := by rw [wrap_i64 (by omega) (by omega)]; simp
      have est : ownL (l.take (i + 1)) = ownL (l.take i) ++ [⟨l[i].node, l[i].amt, 0, 0⟩] := by
        unfold ownL
        rw [List.take_succ_eq_append_getElem hlt, List.map_append]; rfl
      have hol : (ownL (l.take i)).length ≤ i := by unfold ownL; rw [List.length_map, List.length_take]; omega
      simp -dsimp only [Vm.E, List.lookup, Nat.reduceAdd, Nat.reduceBEq, Int.reduceBNe, Int.reduceBEq, Bool.true_beq, Bool.false_beq, Vm.S, Nat.reduceLeDiff, q83]
      refine idx_map lnAv l i hlt ?_
      generalize l[i] = x at est
      simp only [lnAv, lnCells]
      simp -dsimp only [Vm.E, List.lookup, Nat.reduceAdd, Nat.reduceBEq, Int.reduceBNe, Int.reduceBEq, Bool.true_beq, Bool.false_beq, Vm.S, Nat.reduceLeDiff, q83, AV.cells]
      refine bs_intro zr187 (by decide) (by decide) rfl rfl (by simp [solid, AV.cells]) ?_
      simp -dsimp only [Vm.E, List.lookup, Nat.reduceAdd, Nat.reduceBEq, Int.reduceBNe, Int.reduceBEq, Bool.true_beq, Bool.false_beq, Vm.S, Nat.reduceLeDiff, q83]
      refine app_sl Tryz.underlying107 (by simp [AV.cells]) (by simp only [List.length_map, List.length_cons, List.length_nil]; omega) ?_
      simp -dsimp only [Vm.E, List.lookup, Nat.reduceAdd, Nat.reduceBEq, Int.reduceBNe, Int.reduceBEq, Bool.true_beq, Bool.false_beq, Vm.S, Nat.reduceLeDiff, q83]
      refine kept_intro ⟨l.length - (i + 1), by omega, _, le_mk [(3, .own true 187 4 ((ownL (l.take (i + 1))).map dlAv)), (6, .sl 4 (l.map lnAv)), (7, .v (.int .i64 l.length)), (8, .v (.int .i64 (i + 1 : Nat)))] ?_, i + 1, by omega, rfl, rfl⟩
      simp only [List.forall_mem_cons, List.not_mem_nil, false_imp_iff, implies_true, and_true, hw, est, List.map_append, List.map_cons, List.map_nil, dlAv, dlCells]
      try simp -dsimp only [Vm.E, List.lookup, Nat.reduceAdd, Nat.reduceBEq, Int.reduceBNe, Int.reduceBEq, Bool.true_beq, Bool.false_beq, Vm.S, Nat.reduceLeDiff, q83, hw, est, List.map_append, List.map_cons, List.map_nil, dlAv, dlCells]
      repeat' first | exact Fg.refl _ | exact Fg.nil _ _ _ (by decide) | refine And.intro ?_ ?_
    · have hge : ¬ i < l.length := by have := of_decide_eq_false hcc; omega
      simp -dsimp only [Vm.E, List.lookup, Nat.reduceAdd, Nat.reduceBEq, Int.reduceBNe, Int.reduceBEq, Bool.true_beq, Bool.false_beq, Vm.S, Nat.reduceLeDiff, q83]
      rw [List.take_of_length_le (by omega)]
      exact hq
/-- Lines' nodes, charged. -/
def chargeL (year : Int) : List Dl → Fun → Bool → Fun × Bool × Int
  | [], f, w => (f, w, 0)
  | x :: r, f, w => if (chargeOf f year x.node ⟨x.orig, 0, 0⟩).2.2 ≠ 0 then ((chargeOf f year x.node ⟨x.orig, 0, 0⟩).1, false, (chargeOf f year x.node ⟨x.orig, 0, 0⟩).2.2)
    else chargeL year r (chargeOf f year x.node ⟨x.orig, 0, 0⟩).1 (w || (chargeOf f year x.node ⟨x.orig, 0, 0⟩).2.1)
theorem chargeL_cons (year : Int) (x : Dl) (r : List Dl) (f : Fun) (w : Bool) : chargeL year (x :: r) f w = if (chargeOf f year x.node ⟨x.orig, 0, 0⟩).2.2 ≠ 0 then ((chargeOf f year x.node ⟨x.orig, 0, 0⟩).1, false, (chargeOf f year x.node ⟨x.orig, 0, 0⟩).2.2)
    else chargeL year r (chargeOf f year x.node ⟨x.orig, 0, 0⟩).1 (w || (chargeOf f year x.node ⟨x.orig, 0, 0⟩).2.1) := rfl
attribute [local irreducible] chargeOf chargeL docsPut
def chargeLSpec : Vm.Spec := fun args h Q => ∃ (V : VId) (f : Fun) (year : Int) (l : List Dl), l.length ≤ 1073741824 ∧ args = [.agg [.ptr V.iv 0, .v (.int .i64 year)], .sl 4 (l.map dlAv)] ∧ isView h V f ∧
  ∀ h', isView h' V (chargeL year l f false).1 → Same h h' [V.ic] → Q (.tup [.v (.bool (chargeL year l f false).2.1), .v (.int .i64 (chargeL year l f false).2.2)]) h'
set_option maxHeartbeats 1000000 in
theorem does_chargeL : Does Tryz.prog 84 chargeLSpec := by
  refine does_of_awp (good_cons does_charge good_nil) Tryz.func84 rfl (by decide +kernel) (by decide +kernel) ?_
  rintro args h Q ⟨V, f, year, l, hl, rfl, hV, hq⟩
  refine ⟨by simp [Tryz.f84], ?_⟩
  rw [awpFunc_some (by rfl)]
  simp -dsimp only [Vm.E, List.lookup, Nat.reduceAdd, Nat.reduceBEq, Int.reduceBNe, Int.reduceBEq, Bool.true_beq, Bool.false_beq, Vm.S, Nat.reduceLeDiff, q84]
  refine awp_loop (fun m s h' => ∃ (i : Nat) (g : Fun) (w : Bool), i + m = l.length ∧ isView h' V g ∧ Same h h' [V.ic] ∧ chargeL year (l.drop i) g w = chargeL year l f false ∧ s = mk [(2, .box [.ptr V.iv 0, .v (.int .i64 year)]), (6, .v (.bool w)), (11, .sl 4 (l.map dlAv)), (12, .v (.int .i64 l.length)), (13, .v (.int .i64 (i : Nat)))])
    l.length _ (le_mk _ ?_) ⟨0, f, false, by omega, hV, .refl _ _, rfl, rfl⟩ ?_
  · simp only [List.forall_mem_cons, List.not_mem_nil, false_imp_iff, implies_true, and_true]
    try simp -dsimp only [Vm.E, List.lookup, Nat.reduceAdd, Nat.reduceBEq, Int.reduceBNe, Int.reduceBEq, Bool.true_beq, Bool.false_beq, Vm.S, Nat.reduceLeDiff, q84]
    repeat' first | exact Fg.refl _ | exact Fg.nil _ _ _ (by decide) | refine And.intro ?_ ?_
  · clear hV
    rintro m s h' ⟨i, g, w, hi, hV, hsm, hp, rfl⟩
    simp -dsimp only [Vm.E, List.lookup, Nat.reduceAdd, Nat.reduceBEq, Int.reduceBNe, Int.reduceBEq, Bool.true_beq, Bool.false_beq, Vm.S, Nat.reduceLeDiff, q84]
    refine cond_intro (fun hcc => ?_) (fun hcc => ?_)
    · have hlt : i < l.length := by have := of_decide_eq_true hcc; omega
      have hw : IntKind.i64.wrap ((i : Int) + 1) = ((i + 1 : Nat) : Int) := by rw [wrap_i64 (by omega) (by omega)]; simp
      rw [List.drop_eq_getElem_cons hlt] at hp
      simp -dsimp only [Vm.E, List.lookup, Nat.reduceAdd, Nat.reduceBEq, Int.reduceBNe, Int.reduceBEq, Bool.true_beq, Bool.false_beq, Vm.S, Nat.reduceLeDiff, q84]
      refine idx_map dlAv l i hlt ?_
      generalize l[i] = x at hp
      simp only [dlAv, dlCells]
      simp -dsimp only [Vm.E, List.lookup, Nat.reduceAdd, Nat.reduceBEq, Int.reduceBNe, Int.reduceBEq, Bool.true_beq, Bool.false_beq, Vm.S, Nat.reduceLeDiff, q84, AV.cells]
      refine call_one (S := chargeSpec) rfl _ GaL.rfl ⟨V, g, year, x.node, ⟨x.orig, 0, 0⟩, rfl, hV, fun h2 g1 g2 => ?_⟩
      rw [chargeL_cons] at hp
      generalize chargeOf g year x.node ⟨x.orig, 0, 0⟩ = q at hp g1 ⊢
      obtain ⟨qf, qw, qe⟩ := q
      simp only at hp g1 ⊢
      simp -dsimp only [Vm.E, List.lookup, Nat.reduceAdd, Nat.reduceBEq, Int.reduceBNe, Int.reduceBEq, Bool.true_beq, Bool.false_beq, Vm.S, Nat.reduceLeDiff, q84]
      cases c1 : (qe != 0)
      · have d1 : ¬ qe ≠ 0 := by simpa using c1
        rw [if_neg d1] at hp
        cases w
        · simp -dsimp only [Vm.E, List.lookup, Nat.reduceAdd, Nat.reduceBEq, Int.reduceBNe, Int.reduceBEq, Bool.true_beq, Bool.false_beq, Vm.S, Nat.reduceLeDiff, q84]
          refine kept_intro ⟨l.length - (i + 1), by omega, _, le_mk [(2, .box [.ptr V.iv 0, .v (.int .i64 year)]), (6, .v (.bool qw)), (11, .sl 4 (l.map dlAv)), (12, .v (.int .i64 l.length)), (13, .v (.int .i64 (i + 1 : Nat)))] ?_, i + 1, qf, qw, by omega, g1, hsm.trans g2, by simpa using hp, rfl⟩
          simp only [List.forall_mem_cons, List.not_mem_nil, false_imp_iff, implies_true, and_true, hw]
          try simp -dsimp only [Vm.E, List.lookup, Nat.reduceAdd, Nat.reduceBEq, Int.reduceBNe, Int.reduceBEq, Bool.true_beq, Bool.false_beq, Vm.S, Nat.reduceLeDiff, q84, hw]
          repeat' first | exact Fg.refl _ | exact Fg.nil _ _ _ (by decide) | refine And.intro ?_ ?_
        · simp -dsimp only [Vm.E, List.lookup, Nat.reduceAdd, Nat.reduceBEq, Int.reduceBNe, Int.reduceBEq, Bool.true_beq, Bool.false_beq, Vm.S, Nat.reduceLeDiff, q84]
          refine kept_intro ⟨l.length - (i + 1), by omega, _, le_mk [(2, .box [.ptr V.iv 0, .v (.int .i64 year)]), (6, .v (.bool true)), (11, .sl 4 (l.map dlAv)), (12, .v (.int .i64 l.length)), (13, .v (.int .i64 (i + 1 : Nat)))] ?_, i + 1, qf, true, by omega, g1, hsm.trans g2, by simpa using hp, rfl⟩
          simp only [List.forall_mem_cons, List.not_mem_nil, false_imp_iff, implies_true, and_true, hw]
          try simp -dsimp only [Vm.E, List.lookup, Nat.reduceAdd, Nat.reduceBEq, Int.reduceBNe, Int.reduceBEq, Bool.true_beq, Bool.false_beq, Vm.S, Nat.reduceLeDiff, q84, hw]
          repeat' first | exact Fg.refl _ | exact Fg.nil _ _ _ (by decide) | refine And.intro ?_ ?_
      · have d1 : qe ≠ 0 := by simpa using c1
        rw [if_pos d1] at hp
        rw [← hp] at hq
        simp -dsimp only [Vm.E, List.lookup, Nat.reduceAdd, Nat.reduceBEq, Int.reduceBNe, Int.reduceBEq, Bool.true_beq, Bool.false_beq, Vm.S, Nat.reduceLeDiff, q84]
        exact hq h2 g1 (hsm.trans g2)
    · have hge : ¬ i < l.length := by have := of_decide_eq_false hcc; omega
      rw [List.drop_of_length_le (by omega)] at hp
      have hp : (g, w, (0 : Int)) = chargeL year l f false := by rw [← hp]; simp only [chargeL]
      rw [← hp] at hq
      simp -dsimp only [Vm.E, List.lookup, Nat.reduceAdd, Nat.reduceBEq, Int.reduceBNe, Int.reduceBEq, Bool.true_beq, Bool.false_beq, Vm.S, Nat.reduceLeDiff, q84]
      exact hq h' hV hsm
/-- A pre-encumbrance, made. -/
def preNew (f : Fun) (year : Int) (l : List Ln) : Fun × Int × Bool × Int :=
  if checkY f year ≠ 0 then (f, 0, false, checkY f year)
  else if preCheck l ≠ 0 then (f, 0, false, preCheck l)
  else if (chargeL year (ownL l) f false).2.2 ≠ 0 then ((chargeL year (ownL l) f false).1, 0, false, (chargeL year (ownL l) f false).2.2)
  else ((docsPut (chargeL year (ownL l) f false).1 ⟨0, 1, year, 0, 0⟩ (ownL l)).1, (docsPut (chargeL year (ownL l) f false).1 ⟨0, 1, year, 0, 0⟩ (ownL l)).2.1,
    (chargeL year (ownL l) f false).2.1 && ((docsPut (chargeL year (ownL l) f false).1 ⟨0, 1, year, 0, 0⟩ (ownL l)).2.2 == 0), (docsPut (chargeL year (ownL l) f false).1 ⟨0, 1, year, 0, 0⟩ (ownL l)).2.2)
def Ln.ok (x : Ln) : Prop := I64 x.fund ∧ I64 x.obj ∧ I64 x.node ∧ I64 x.amt
theorem ownL_ok {l : List Ln} (h : ∀ x ∈ l, x.ok) : ∀ x ∈ ownL l, x.ok := fun x hx => by
  obtain ⟨y, hy, rfl⟩ := List.mem_map.1 hx
  obtain ⟨-, -, h3, h4⟩ := h y hy
  exact ⟨h3, h4, by show I64 0; unfold I64; omega, by show I64 0; unfold I64; omega⟩
def preNewSpec : Vm.Spec := fun args h Q => ∃ (V : VId) (f : Fun) (year : Int) (l : List Ln), I64 year ∧ l.length ≤ 1073741824 ∧ (∀ x ∈ l, x.ok) ∧ args = [.ptr V.iv 0, .v (.int .i64 year), .sl 4 (l.map lnAv)] ∧ isView h V f ∧
  ∀ h', isView h' V (preNew f year l).1 → Same h h' [V.ic] → Q (.tup [.v (.int .i64 (preNew f year l).2.1), .v (.bool (preNew f year l).2.2.1), .v (.int .i64 (preNew f year l).2.2.2)]) h'
set_option maxHeartbeats 1000000 in
theorem does_preNew : Does Tryz.prog 14 preNewSpec := by
  refine does_of_awp (good_cons does_yCheck (good_cons does_preCheck (good_cons does_preLines (good_cons does_chargeL (good_cons does_docsPut good_nil))))) Tryz.func14 rfl (by decide +kernel) (by decide +kernel) ?_
  rintro args h Q ⟨V, f, year, l, hy, hl, hok, rfl, hV, hq⟩
  refine ⟨by simp [Tryz.f14], ?_⟩
  rw [awpFunc_some (by rfl)]
  unfold preNew at hq
  simp -dsimp only [Vm.E, List.lookup, Nat.reduceAdd, Nat.reduceBEq, Int.reduceBNe, Int.reduceBEq, Bool.true_beq, Bool.false_beq, Vm.S, Nat.reduceLeDiff, q14]
  refine call_one (S := yCheckSpec) rfl _ GaL.rfl ⟨V, f, year, rfl, hV, ?_⟩
  generalize checkY f year = e at hq ⊢
  simp -dsimp only [Vm.E, List.lookup, Nat.reduceAdd, Nat.reduceBEq, Int.reduceBNe, Int.reduceBEq, Bool.true_beq, Bool.false_beq, Vm.S, Nat.reduceLeDiff, q14]
  cases c1 : (e != 0)
  · have d1 : ¬ e ≠ 0 := by simpa using c1
    simp only [if_neg d1] at hq
    simp -dsimp only [Vm.E, List.lookup, Nat.reduceAdd, Nat.reduceBEq, Int.reduceBNe, Int.reduceBEq, Bool.true_beq, Bool.false_beq, Vm.S, Nat.reduceLeDiff, q14]
    refine call_one (S := preCheckSpec) rfl _ GaL.rfl ⟨l, by omega, rfl, ?_⟩
    generalize preCheck l = e2 at hq ⊢
    simp -dsimp only [Vm.E, List.lookup, Nat.reduceAdd, Nat.reduceBEq, Int.reduceBNe, Int.reduceBEq, Bool.true_beq, Bool.false_beq, Vm.S, Nat.reduceLeDiff, q14]
    cases c2 : (e2 != 0)
    · have d2 : ¬ e2 ≠ 0 := by simpa using c2
      simp only [if_neg d2] at hq
      simp -dsimp only [Vm.E, List.lookup, Nat.reduceAdd, Nat.reduceBEq, Int.reduceBNe, Int.reduceBEq, Bool.true_beq, Bool.false_beq, Vm.S, Nat.reduceLeDiff, q14]
      refine call_one (S := linesSpec) rfl _ GaL.rfl ⟨l, hl, rfl, ?_⟩
      have hol : (ownL l).length = l.length := by unfold ownL; rw [List.length_map]
      have hook := ownL_ok hok
      simp -dsimp only [Vm.E, List.lookup, Nat.reduceAdd, Nat.reduceBEq, Int.reduceBNe, Int.reduceBEq, Bool.true_beq, Bool.false_beq, Vm.S, Nat.reduceLeDiff, q14]
      refine call_one (S := chargeLSpec) rfl _ GaL.rfl ⟨V, f, year, ownL l, by omega, rfl, hV, fun h1 g1 g2 => ?_⟩
      obtain ⟨q, hqe⟩ : ∃ q, q = chargeL year (ownL l) f false := ⟨_, rfl⟩
      rw [← hqe] at hq g1 ⊢
      clear hqe
      obtain ⟨qf, qw, qe⟩ := q
      simp only at hq g1 ⊢
      simp -dsimp only [Vm.E, List.lookup, Nat.reduceAdd, Nat.reduceBEq, Int.reduceBNe, Int.reduceBEq, Bool.true_beq, Bool.false_beq, Vm.S, Nat.reduceLeDiff, q14]
      cases c3 : (qe != 0)
      · have d3 : ¬ qe ≠ 0 := by simpa using c3
        simp only [if_neg d3] at hq
        have z0 : I64 0 := by unfold I64; omega
        have z1 : I64 1 := by unfold I64; omega
        simp -dsimp only [Vm.E, List.lookup, Nat.reduceAdd, Nat.reduceBEq, Int.reduceBNe, Int.reduceBEq, Bool.true_beq, Bool.false_beq, Vm.S, Nat.reduceLeDiff, q14]
        refine call_one (S := docsPutSpec) rfl _ GaL.rfl ⟨V, qf, ⟨0, 1, year, 0, 0⟩, ownL l, ⟨z0, z1, hy, z0, z0⟩, hook, rfl, g1, fun h2 g3 g4 => ?_⟩
        obtain ⟨r, hre⟩ : ∃ r, r = docsPut qf ⟨0, 1, year, 0, 0⟩ (ownL l) := ⟨_, rfl⟩
        rw [← hre] at hq g3 ⊢
        clear hre
        obtain ⟨rf, ri, re⟩ := r
        simp only at hq g3 ⊢
        have hq' := hq h2 g3 (g2.trans g4)
        cases qw
        · simp -dsimp only [Vm.E, List.lookup, Nat.reduceAdd, Nat.reduceBEq, Int.reduceBNe, Int.reduceBEq, Bool.true_beq, Bool.false_beq, Vm.S, Nat.reduceLeDiff, q14]
          exact hq'
        · simp -dsimp only [Vm.E, List.lookup, Nat.reduceAdd, Nat.reduceBEq, Int.reduceBNe, Int.reduceBEq, Bool.true_beq, Bool.false_beq, Vm.S, Nat.reduceLeDiff, q14]
          exact hq'
      · have d3 : qe ≠ 0 := by simpa using c3
        simp only [if_pos d3] at hq
        simp -dsimp only [Vm.E, List.lookup, Nat.reduceAdd, Nat.reduceBEq, Int.reduceBNe, Int.reduceBEq, Bool.true_beq, Bool.false_beq, Vm.S, Nat.reduceLeDiff, q14]
        exact hq h1 g1 g2
    · have d2 : e2 ≠ 0 := by simpa using c2
      simp only [if_pos d2] at hq
      simp -dsimp only [Vm.E, List.lookup, Nat.reduceAdd, Nat.reduceBEq, Int.reduceBNe, Int.reduceBEq, Bool.true_beq, Bool.false_beq, Vm.S, Nat.reduceLeDiff, q14]
      exact hq h hV (.refl _ _)
  · have d1 : e ≠ 0 := by simpa using c1
    simp only [if_pos d1] at hq
    simp -dsimp only [Vm.E, List.lookup, Nat.reduceAdd, Nat.reduceBEq, Int.reduceBNe, Int.reduceBEq, Bool.true_beq, Bool.false_beq, Vm.S, Nat.reduceLeDiff, q14]
    exact hq h hV (.refl _ _)
end Go.Proofs.Lx
/- The law PreOpen. -/
set_option linter.unusedSimpArgs false
set_option linter.unusedVariables false
namespace Go.Proofs.Lx
open Go.Vm
attribute [local irreducible] awpArr awpBin awpMake awpAppend awpCvX awpStrOf awpBinX awpSlice awpBS awpStore awpAlloc awpCopy awpIndex awpDraw awpIdxX awpFa awpField awpLookup awpUpdate awpDelete awpClear awpRange awpNext awpEntry awpBuild awpClearS awpIdxL awpTree appB awpIdxO eltA treeA
abbrev InR (n : Int) : Prop := 0 ≤ n ∧ n ≤ 4294967295
theorem keyOf_tag {t t' : UInt8} {l l' : List Int} (h : t ≠ t') : keyOf t l ≠ keyOf t' l' := fun e => by
  unfold keyOf at e
  exact h (List.cons.inj e).1
theorem bit_ne (b : Bool) : (bitOf b != 0) = b := by cases b <;> rfl
theorem nodeOf_put {m : Nd} (hm : m.ok) (r1 : InR m.year) (r2 : InR m.id) : nodeOf (ndK m) (ndV m) = some m := by
  have hv : ndV m = packs 8 (ndVal m) := rfl
  have hn : numsOf (packs 8 (ndVal m)) 10 = ndVal m := by
    refine numsOf_packs (ndVal m) fun x hx => ?_
    obtain ⟨o1, o2, o3, o4, o5, o6, o7, o8, o9, o10, o11⟩ := hm
    have ob := bit_i64 m.abs
    simp only [ndVal, List.mem_cons, List.not_mem_nil, or_false] at hx
    rcases hx with rfl | rfl | rfl | rfl | rfl | rfl | rfl | rfl | rfl | rfl <;> assumption
  unfold nodeOf numsPair
  rw [ndK, splitOf_key 78 (ndKey m) (by simp [ndKey])]
  have hk : (ndKey m).map clampK = [m.year, m.id] := by simp [ndKey, clampK_id r1.1 r1.2, clampK_id r2.1 r2.2]
  simp only [hk]
  rw [if_pos ⟨trivial, rfl, ndV_length m⟩, hv, hn]
  obtain ⟨a1, a2, a3, a4, a5, a6, a7, a8, a9, a10, a11, a12⟩ := m
  simp [ndOf, ndVal, bit_ne]
theorem ndK_iff {m : Nd} {y i : Int} (r1 : InR m.year) (r2 : InR m.id) (r3 : InR y) (r4 : InR i) : keyOf 78 [y, i] = ndK m ↔ y = m.year ∧ i = m.id := by
  constructor
  · intro h
    have := (key_inj (by simp) (by simp [ndKey]) h).2
    simp only [List.map_cons, List.map_nil, ndKey, clampK_id r1.1 r1.2, clampK_id r2.1 r2.2, clampK_id r3.1 r3.2, clampK_id r4.1 r4.2] at this
    simpa using this
  · rintro ⟨rfl, rfl⟩; rfl
theorem nodeAt_put {f : Fun} {m : Nd} {y i : Int} (hm : m.ok) (r1 : InR m.year) (r2 : InR m.id) (r3 : InR y) (r4 : InR i) : nodeAt (upd f (ndK m) (some (ndV m))) y i = if y = m.year ∧ i = m.id then some m else nodeAt f y i := by
  unfold nodeAt
  rw [upd_app]
  by_cases h : y = m.year ∧ i = m.id
  · rw [if_pos h, if_pos ((ndK_iff r1 r2 r3 r4).2 h)]
    have hk := (ndK_iff r1 r2 r3 r4).2 h
    simp only [hk, nodeOf_put hm r1 r2]
    rw [if_pos ⟨h.1.symm, h.2.symm⟩]
  · rw [if_neg h, if_neg fun hk => h ((ndK_iff r1 r2 r3 r4).1 hk)]
theorem nodeAt_other {f : Fun} {k : List UInt8} {v : Option (List UInt8)} {y i : Int} (h : keyOf 78 [y, i] ≠ k) : nodeAt (upd f k v) y i = nodeAt f y i := by
  unfold nodeAt
  rw [upd_app, if_neg h]
theorem readOf_other {f : Fun} {k k' : List UInt8} {v : Option (List UInt8)} (h : k' ≠ k) : readOf (upd f k v) k' = readOf f k' := by
  unfold readOf
  rw [upd_app, if_neg h]
def yr20 (n : Nd) : Nd := { n with year := 2020 }
def putN (f : Fun) (n : Nd) : Fun := upd f (ndK (yr20 n)) (some (ndV (yr20 n)))
def begunF (l : List Nd) : Fun := l.foldl putN (openOf noF 2020).1
theorem begunF_n (l : List Nd) : (begunF l).n ≤ l.length + 1 := by
  have : ∀ (l : List Nd) (f : Fun), (l.foldl putN f).n = f.n + l.length := by
    intro l
    induction l with
    | nil => intro f; rfl
    | cons x r ih =>
      intro f
      rw [List.foldl_cons, ih]
      show f.n + 1 + r.length = _
      simp only [List.length_cons]; omega
  unfold begunF
  rw [this]
  have := open_n noF 2020
  have h0 : noF.n = 0 := rfl
  omega
def begunSpec : Vm.Spec := fun args h Q => ∃ l : List Nd, l.length ≤ 1048576 ∧ (∀ n ∈ l, n.ok) ∧ args = [.sl 12 (l.map ndAv)] ∧ ∀ (V : VId) (R : RId) (h' : Heap), Both h' V R (begunF l) → Q (.tup [.ptr V.iv 0, .ptr R.iv 0]) h'
set_option maxRecDepth 20000 in
set_option maxHeartbeats 1000000 in
theorem does_begun : Does Tryz.prog 13 begunSpec := by
  refine does_of_awp (good_cons does_vnewA (good_cons does_rNewA (good_cons does_yOpen (good_cons does_rOpen (good_cons does_tput (good_cons does_rtPut good_nil)))))) Tryz.func13 rfl (by decide +kernel) (by decide +kernel) ?_
  rintro args h Q ⟨l, hl, hok, rfl, hq⟩
  refine ⟨by simp [Tryz.f13], ?_⟩
  rw [awpFunc_some (by rfl)]
  simp -dsimp only [Vm.E, List.lookup, Nat.reduceAdd, Nat.reduceBEq, Int.reduceBNe, Int.reduceBEq, Bool.true_beq, Bool.false_beq, Vm.S, Nat.reduceLeDiff, q13]
  refine call_one (S := vnewASpec) rfl _ GaL.rfl ⟨rfl, fun V h00 hV00 => ?_⟩
  simp -dsimp only [Vm.E, List.lookup, Nat.reduceAdd, Nat.reduceBEq, Int.reduceBNe, Int.reduceBEq, Bool.true_beq, Bool.false_beq, Vm.S, Nat.reduceLeDiff, q13]
  refine call_one (S := rNewASpec) rfl _ (.cons (.nil 2) .nil) ⟨V, rfl, hV00, fun R h0 hB0 => ?_⟩
  clear hV00
  simp -dsimp only [Vm.E, List.lookup, Nat.reduceAdd, Nat.reduceBEq, Int.reduceBNe, Int.reduceBEq, Bool.true_beq, Bool.false_beq, Vm.S, Nat.reduceLeDiff, q13]
  refine call_one (S := yOpenSpec) rfl _ GaL.rfl ⟨V, noF, 2020, rfl, hB0.1, fun h1 g1 g2 => ?_⟩
  have hR1 := hB0.view g1 g2
  simp -dsimp only [Vm.E, List.lookup, Nat.reduceAdd, Nat.reduceBEq, Int.reduceBNe, Int.reduceBEq, Bool.true_beq, Bool.false_beq, Vm.S, Nat.reduceLeDiff, q13]
  refine call_one (S := rOpenSpec) rfl _ GaL.rfl ⟨R, noF, 2020, rfl, hR1, by decide, fun h2 g3 g4 => ?_⟩
  have hB1 := hB0.ref g1 g3 g4
  clear hB0 g1 g2 g3 g4 hR1
  simp -dsimp only [Vm.E, List.lookup, Nat.reduceAdd, Nat.reduceBEq, Int.reduceBNe, Int.reduceBEq, Bool.true_beq, Bool.false_beq, Vm.S, Nat.reduceLeDiff, q13]
  refine awp_loop (fun m s h' => ∃ i : Nat, i + m = l.length ∧ Both h' V R (begunF (l.take i)) ∧ s = mk [(4, .ptr V.iv 0), (5, .ptr R.iv 0), (14, .sl 12 (l.map ndAv)), (15, .v (.int .i64 l.length)), (16, .v (.int .i64 (i : Nat)))])
    l.length _ (le_mk _ ?_) ⟨0, by omega, hB1, rfl⟩ ?_
  · simp only [List.forall_mem_cons, List.not_mem_nil, false_imp_iff, implies_true, and_true]
    try simp -dsimp only [Vm.E, List.lookup, Nat.reduceAdd, Nat.reduceBEq, Int.reduceBNe, Int.reduceBEq, Bool.true_beq, Bool.false_beq, Vm.S, Nat.reduceLeDiff, q13]
    repeat' first | exact Fg.refl _ | exact Fg.nil _ _ _ (by decide) | refine And.intro ?_ ?_
  · clear hB1
    rintro m s h' ⟨i, hi, hB, rfl⟩
    simp -dsimp only [Vm.E, List.lookup, Nat.reduceAdd, Nat.reduceBEq, Int.reduceBNe, Int.reduceBEq, Bool.true_beq, Bool.false_beq, Vm.S, Nat.reduceLeDiff, q13]
    refine cond_intro (fun hcc => ?_) (fun hcc => ?_)
    · have hlt : i < l.length := by have := of_decide_eq_true hcc; omega
      have hw : IntKind.i64.wrap ((i : Int) + 1) = ((i + 1 : Nat) : Int) := by rw [wrap_i64 (by omega) (by omega)]; simp
      have hfn := begunF_n (l.take i)
      have htl : (l.take i).length ≤ i := by rw [List.length_take]; omega
      have est : begunF (l.take (i + 1)) = putN (begunF (l.take i)) l[i] := by
        unfold begunF
        rw [List.take_succ_eq_append_getElem hlt, List.foldl_append]; rfl
      have ho := hok l[i] (List.getElem_mem hlt)
      simp -dsimp only [Vm.E, List.lookup, Nat.reduceAdd, Nat.reduceBEq, Int.reduceBNe, Int.reduceBEq, Bool.true_beq, Bool.false_beq, Vm.S, Nat.reduceLeDiff, q13]
      refine idx_map ndAv l i hlt ?_
      generalize l[i] = n at est ho
      have hok2 : (yr20 n).ok := ⟨by show I64 2020; unfold I64; omega, ho.2⟩
      simp only [ndAv, ndCells]
      simp -dsimp only [Vm.E, List.lookup, Nat.reduceAdd, Nat.reduceBEq, Int.reduceBNe, Int.reduceBEq, Bool.true_beq, Bool.false_beq, Vm.S, Nat.reduceLeDiff, q13, AV.cells]
      refine call_one (S := tputSpec) rfl _ GaL.rfl ⟨V, begunF (l.take i), yr20 n, rfl, hok2, hB.1, fun h2 g1 g2 => ?_⟩
      simp -dsimp only [Vm.E, List.lookup, Nat.reduceAdd, Nat.reduceBEq, Int.reduceBNe, Int.reduceBEq, Bool.true_beq, Bool.false_beq, Vm.S, Nat.reduceLeDiff, q13]
      refine call_one (S := rtPutSpec) rfl _ GaL.rfl ⟨R, begunF (l.take i), yr20 n, rfl, hok2, hB.view g1 g2, by omega, fun h3 g3 g4 => ?_⟩
      have hB2 := hB.ref g1 g3 g4
      have hB2 : Both h3 V R (begunF (l.take (i + 1))) := by rw [est]; exact hB2
      simp -dsimp only [Vm.E, List.lookup, Nat.reduceAdd, Nat.reduceBEq, Int.reduceBNe, Int.reduceBEq, Bool.true_beq, Bool.false_beq, Vm.S, Nat.reduceLeDiff, q13]
      refine kept_intro ⟨l.length - (i + 1), by omega, _, le_mk [(4, .ptr V.iv 0), (5, .ptr R.iv 0), (14, .sl 12 (l.map ndAv)), (15, .v (.int .i64 l.length)), (16, .v (.int .i64 (i + 1 : Nat)))] ?_, i + 1, by omega, hB2, rfl⟩
      simp only [List.forall_mem_cons, List.not_mem_nil, false_imp_iff, implies_true, and_true, hw]
      try simp -dsimp only [Vm.E, List.lookup, Nat.reduceAdd, Nat.reduceBEq, Int.reduceBNe, Int.reduceBEq, Bool.true_beq, Bool.false_beq, Vm.S, Nat.reduceLeDiff, q13, hw]
      repeat' first | exact Fg.refl _ | exact Fg.nil _ _ _ (by decide) | refine And.intro ?_ ?_
    · have hge : ¬ i < l.length := by have := of_decide_eq_false hcc; omega
      rw [List.take_of_length_le (by omega)] at hB
      simp -dsimp only [Vm.E, List.lookup, Nat.reduceAdd, Nat.reduceBEq, Int.reduceBNe, Int.reduceBEq, Bool.true_beq, Bool.false_beq, Vm.S, Nat.reduceLeDiff, q13]
      exact hq V R h' hB
def aw1 : Nd := { Nd.zero with id := 1, limit := 9 }
def aw2 : Ln := ⟨0, 0, 1, 10⟩
theorem aw_pre : (preNew (begunF [aw1]) 2020 [aw2]).2 = (1, true, 0) := by decide +kernel
theorem aw_nd : (nodeAt (preNew (begunF [aw1]) 2020 [aw2]).1 2020 1).map (·.pre) = some 10 := by decide +kernel
theorem aw1_ok : aw1.ok := by simp [Nd.ok, aw1, Nd.zero, I64]
theorem aw2_ok : aw2.ok := by simp [Ln.ok, aw2, I64]
set_option maxRecDepth 20000 in
theorem does_law31awake : Does Tryz.prog 16 trueSpec := by
  refine does_of_awp (good_cons does_begun (good_cons does_preNew (good_cons does_tget (good_cons does_preCheck good_nil)))) Tryz.func16 rfl (by decide +kernel) (by decide +kernel) ?_
  rintro args h Q ⟨rfl, hq⟩
  refine ⟨by simp [Tryz.f16], ?_⟩
  rw [awpFunc_some (by rfl)]
  simp -dsimp only [Vm.E, List.lookup, Nat.reduceAdd, Nat.reduceBEq, Int.reduceBNe, Int.reduceBEq, Bool.true_beq, Bool.false_beq, Vm.S, Nat.reduceLeDiff, q16]
  refine bs_intro zr25 (by decide) (by decide) rfl rfl (by simp [solid, AV.cells]) ?_
  simp -dsimp only [Vm.E, List.lookup, Nat.reduceAdd, Nat.reduceBEq, Int.reduceBNe, Int.reduceBEq, Bool.true_beq, Bool.false_beq, Vm.S, Nat.reduceLeDiff, q16]
  refine call_one (S := begunSpec) rfl _ GaL.rfl ⟨[aw1], by simp, by simpa using aw1_ok, rfl, fun V R h1 hB => ?_⟩
  simp -dsimp only [Vm.E, List.lookup, Nat.reduceAdd, Nat.reduceBEq, Int.reduceBNe, Int.reduceBEq, Bool.true_beq, Bool.false_beq, Vm.S, Nat.reduceLeDiff, q16]
  refine nil_pointer Tryz.underlying26 ?_
  simp -dsimp only [Vm.E, List.lookup, Nat.reduceAdd, Nat.reduceBEq, Int.reduceBNe, Int.reduceBEq, Bool.true_beq, Bool.false_beq, Vm.S, Nat.reduceLeDiff, q16]
  refine bs_intro zr34 (by decide) (by decide) rfl rfl (by simp [solid, AV.cells]) ?_
  simp -dsimp only [Vm.E, List.lookup, Nat.reduceAdd, Nat.reduceBEq, Int.reduceBNe, Int.reduceBEq, Bool.true_beq, Bool.false_beq, Vm.S, Nat.reduceLeDiff, q16]
  refine call_one (S := preNewSpec) rfl _ GaL.rfl ⟨V, begunF [aw1], 2020, [aw2], by unfold I64; omega, by simp, by simpa using aw2_ok, rfl, hB.1, fun h2 g1 g2 => ?_⟩
  have e1 := aw_pre
  have e2 := aw_nd
  generalize preNew (begunF [aw1]) 2020 [aw2] = q at g1 e1 e2 ⊢
  obtain ⟨qf, qi, qw, qe⟩ := q
  simp only [Prod.mk.injEq] at e1
  obtain ⟨rfl, rfl, rfl⟩ := e1
  simp only at e2 g1 ⊢
  simp -dsimp only [Vm.E, List.lookup, Nat.reduceAdd, Nat.reduceBEq, Int.reduceBNe, Int.reduceBEq, Bool.true_beq, Bool.false_beq, Vm.S, Nat.reduceLeDiff, q16]
  refine call_one (S := tgetSpec) rfl _ GaL.rfl ⟨V, qf, 2020, 1, rfl, g1, fun n hn => ?_, fun hn => by rw [hn] at e2; cases e2⟩
  rw [hn] at e2
  have e3 : n.pre = 10 := by simpa using e2
  simp only [ndCells, e3]
  simp -dsimp only [Vm.E, List.lookup, Nat.reduceAdd, Nat.reduceBEq, Int.reduceBNe, Int.reduceBEq, Bool.true_beq, Bool.false_beq, Vm.S, Nat.reduceLeDiff, q16]
  refine call_one (S := preCheckSpec) rfl _ (.cons (.nil 4) GaL.rfl) ⟨[], by simp, rfl, ?_⟩
  have e4 : preCheck [] = 1 := rfl
  rw [e4]
  simp -dsimp only [Vm.E, List.lookup, Nat.reduceAdd, Nat.reduceBEq, Int.reduceBNe, Int.reduceBEq, Bool.true_beq, Bool.false_beq, Vm.S, Nat.reduceLeDiff, q16]
  exact hq _
def nodeP (n : Int) (k : Nat) (pr : Int) : Nd := { Nd.zero with year := 2020, id := k, parent := (k : Int) - 1, limit := n, pre := pr }
def bareN (n : Int) (i : Nat) : Nd := { Nd.zero with id := (i : Int) + 1, parent := i, limit := n }
def chainF (n : Int) : Nat → Fun
  | 0 => (openOf noF 2020).1
  | t + 1 => upd (chainF n t) (ndK (nodeP n (t + 1) 0)) (some (ndV (nodeP n (t + 1) 0)))
theorem yr_bare (n : Int) (t : Nat) : yr20 (bareN n t) = nodeP n (t + 1) 0 := by
  simp only [yr20, bareN, nodeP, Nd.zero, Nd.mk.injEq, true_and, and_true]
  omega
theorem begun_chain (n : Int) : ∀ t : Nat, begunF ((List.range t).map (bareN n)) = chainF n t
  | 0 => rfl
  | t + 1 => by
    have ih := begun_chain n t
    unfold begunF at ih ⊢
    rw [List.range_succ, List.map_append, List.foldl_append, ih]
    show putN (chainF n t) (bareN n t) = upd (chainF n t) (ndK (nodeP n (t + 1) 0)) (some (ndV (nodeP n (t + 1) 0)))
    unfold putN
    rw [yr_bare]
theorem nodeP_ok {n pr : Int} {k : Nat} (hn : 0 ≤ n ∧ n ≤ 4294967296) (hp : 0 ≤ pr ∧ pr ≤ 4294967296) (hk : k ≤ 255) : (nodeP n k pr).ok := by
  simp only [Nd.ok, nodeP, Nd.zero, I64]
  omega
theorem nodeP_put {f : Fun} {n pr : Int} {k j : Nat} (hn : 0 ≤ n ∧ n ≤ 4294967296) (hp : 0 ≤ pr ∧ pr ≤ 4294967296) (hk : k ≤ 255) (hj : j ≤ 255) : nodeAt (upd f (ndK (nodeP n k pr)) (some (ndV (nodeP n k pr)))) 2020 (j : Nat) = if j = k then some (nodeP n k pr) else nodeAt f 2020 (j : Nat) := by
  rw [nodeAt_put (nodeP_ok hn hp hk) ⟨by show (0 : Int) ≤ 2020; decide, by show (2020 : Int) ≤ 4294967295; decide⟩ ⟨by show 0 ≤ (k : Int); omega, by show (k : Int) ≤ _; omega⟩ ⟨by decide, by decide⟩ ⟨by omega, by omega⟩]
  have e1 : (nodeP n k pr).year = 2020 := rfl
  have e2 : (nodeP n k pr).id = (k : Int) := rfl
  rw [e1, e2]
  by_cases h : j = k
  · rw [if_pos ⟨rfl, by omega⟩, if_pos h]
  · rw [if_neg (by omega), if_neg h]
theorem chain_at {n : Int} (hn : 0 ≤ n ∧ n ≤ 4294967296) : ∀ (t : Nat), t ≤ 255 → ∀ k : Nat, 1 ≤ k → k ≤ t → nodeAt (chainF n t) 2020 (k : Nat) = some (nodeP n k 0)
  | 0, _, k, h1, h2 => by omega
  | t + 1, ht, k, h1, h2 => by
    unfold chainF
    rw [nodeP_put hn ⟨by omega, by omega⟩ ht (by omega)]
    by_cases h : k = t + 1
    · rw [if_pos h, h]
    · rw [if_neg h]
      exact chain_at hn t (by omega) k h1 (by omega)
theorem chain_read {n : Int} {q : List UInt8} (hq : ∀ m : Nd, q ≠ ndK m) : ∀ t : Nat, readOf (chainF n t) q = readOf (openOf noF 2020).1 q
  | 0 => rfl
  | t + 1 => by
    unfold chainF
    rw [readOf_other (hq _)]
    exact chain_read hq t
def downL (n : Int) : Nat → List Nd
  | 0 => []
  | a + 1 => nodeP n (a + 1) 0 :: downL n a
theorem path_down {n : Int} (hn : 0 ≤ n ∧ n ≤ 4294967296) {t : Nat} (ht : t ≤ 255) : ∀ (a k : Nat), 1 ≤ a → a ≤ t → a ≤ k → pathOf (chainF n t) 2020 k (a : Nat) = downL n a
  | 0, k, h, _, _ => by omega
  | a + 1, 0, _, _, h => by omega
  | a + 1, k + 1, h1, h2, h3 => by
    simp only [pathOf]
    rw [chain_at hn t ht (a + 1) h1 h2]
    simp only [downL]
    congr 1
    have ep : (nodeP n (a + 1) 0).parent = (a : Nat) := by show ((a + 1 : Nat) : Int) - 1 = _; omega
    rw [ep]
    cases a with
    | zero => rfl
    | succ b =>
      rw [if_neg (by omega)]
      exact path_down hn ht (b + 1) k (by omega) (by omega) (by omega)
def pF (n : Int) : Nat → Fun → Fun
  | 0, f => f
  | a + 1, f => pF n a (upd f (ndK (nodeP n (a + 1) n)) (some (ndV (nodeP n (a + 1) n))))
theorem w64_small {n : Int} (h : 0 ≤ n ∧ n ≤ 4294967296) : w64 n = n := wrap_i64 (by omega) (by omega)
theorem at_node {n : Int} (hn : 1 ≤ n ∧ n ≤ 4294967296) (k : Nat) : atOf ⟨n, 0, 0⟩ (nodeP n k 0) = (nodeP n k n, false, 0) := by
  have w0 : w64 0 = 0 := rfl
  have wn : w64 n = n := w64_small (by omega)
  have z0 : figureP 0 = true := rfl
  have zn : figureP n = true := by simp [figureP]; omega
  have f1 : figs (nodeP n k 0) = true := rfl
  have ea : addC ⟨n, 0, 0⟩ (nodeP n k 0) = nodeP n k n := by
    simp only [addC, nodeP, Nd.zero, Int.zero_add, Int.add_zero, w0, wn]
  have f2 : figs (nodeP n k n) = true := by
    show (figureP n && figureP 0 && figureP 0) = true
    rw [zn, z0]; rfl
  have es : chgSum ⟨n, 0, 0⟩ = n := by simp only [chgSum, Int.add_zero, wn]
  have al : allowsOf (nodeP n k 0) n = (true, false) := by
    have hu : usedOf (nodeP n k 0) = 0 := rfl
    have hlim : (nodeP n k 0).limit = n := rfl
    have hs : smallP n = true := by simp [smallP]; omega
    have hs0 : smallP 0 = true := rfl
    unfold allowsOf
    simp only [hu, hlim, hs, hs0, Int.sub_zero, wn]
    simp
    omega
  unfold atOf
  simp only [f1, ea, f2, es, al]
  rfl
theorem run_down {n : Int} (hn : 1 ≤ n ∧ n ≤ 4294967296) : ∀ (a : Nat) (f : Fun), chargeRun ⟨n, 0, 0⟩ (downL n a) f false = (pF n a f, false, 0)
  | 0, f => rfl
  | a + 1, f => by
    simp only [downL, chargeRun, at_node hn, pF]
    simp only [ne_eq, not_true_eq_false, if_false, Bool.or_false]
    exact run_down hn a _
theorem pF_at {n : Int} (hn : 0 ≤ n ∧ n ≤ 4294967296) : ∀ (a : Nat) (f : Fun), a ≤ 255 → ∀ k : Nat, k ≤ 255 → nodeAt (pF n a f) 2020 (k : Nat) = if 1 ≤ k ∧ k ≤ a then some (nodeP n k n) else nodeAt f 2020 (k : Nat)
  | 0, f, _, k, _ => by rw [if_neg (by omega)]; rfl
  | a + 1, f, ha, k, hk => by
    unfold pF
    rw [pF_at hn a _ (by omega) k hk, nodeP_put hn hn ha hk]
    by_cases h1 : 1 ≤ k ∧ k ≤ a
    · rw [if_pos h1, if_pos ⟨h1.1, by omega⟩]
    · rw [if_neg h1]
      by_cases h2 : k = a + 1
      · rw [if_pos h2, if_pos ⟨by omega, by omega⟩, h2]
      · rw [if_neg h2, if_neg (by omega)]
theorem pF_read {n : Int} {q : List UInt8} (hq : ∀ m : Nd, q ≠ ndK m) : ∀ (a : Nat) (f : Fun), readOf (pF n a f) q = readOf f q
  | 0, f => rfl
  | a + 1, f => by
    unfold pF
    rw [pF_read hq a, readOf_other (hq _)]
theorem downL_length (n : Int) : ∀ a, (downL n a).length = a
  | 0 => rfl
  | a + 1 => by simp [downL, downL_length n a]
theorem charge_down {n : Int} (hn : 1 ≤ n ∧ n ≤ 4294967296) {t a : Nat} (ht : t ≤ 7) (ha : 1 ≤ a) (hat : a ≤ t) : chargeOf (chainF n t) 2020 (a : Nat) ⟨n, 0, 0⟩ = (pF n a (chainF n t), false, 0) := by
  unfold chargeOf
  rw [path_down (by omega) (by omega) a 8 ha hat (by omega), downL_length, if_neg (by omega), if_neg, run_down hn]
  have z0 : withinP 0 = true := rfl
  have zn : withinP n = true := by simp [withinP]; omega
  unfold chgRight
  simp [z0, zn]
theorem at_dl (f : Fun) (id i : Int) (v : Option (List UInt8)) (y k : Int) : nodeAt (upd f (dlK id i) v) y k = nodeAt f y k := nodeAt_other (k := dlK id i) (keyOf_tag (t := 78) (t' := 76) (l := [y, k]) (l' := [id, i]) (by decide))
theorem at_dc (f : Fun) (id : Int) (v : Option (List UInt8)) (y k : Int) : nodeAt (upd f (dcK id) v) y k = nodeAt f y k := nodeAt_other (k := dcK id) (keyOf_tag (t := 78) (t' := 68) (l := [y, k]) (l' := [id]) (by decide))
theorem at_seq (f : Fun) (w : Int) (v : Option (List UInt8)) (y k : Int) : nodeAt (upd f (seqKey w) v) y k = nodeAt f y k := nodeAt_other (k := seqKey w) (keyOf_tag (t := 78) (t' := 83) (l := [y, k]) (l' := [w]) (by decide))
theorem yr_nd (y : Int) (m : Nd) : yrK y ≠ ndK m := keyOf_tag (t := 89) (t' := 78) (l := [y]) (l' := ndKey m) (by decide)
theorem seq_nd (y : Int) (m : Nd) : seqKey y ≠ ndK m := keyOf_tag (t := 83) (t' := 78) (l := [y]) (l' := ndKey m) (by decide)
theorem seq_yr (w y : Int) : seqKey w ≠ yrK y := keyOf_tag (t := 83) (t' := 89) (l := [w]) (l' := [y]) (by decide)
theorem putLines_at (id : Int) (y k : Int) : ∀ (l : List Dl) (i : Nat) (f : Fun), nodeAt (putLines id i l f) y k = nodeAt f y k
  | [], _, _ => rfl
  | x :: r, i, f => by
    unfold putLines
    rw [putLines_at id y k r, at_dl]
theorem docsF_at (f : Fun) (id : Int) (d : Dc) (l : List Dl) (y k : Int) : nodeAt (docsF f id d l) y k = nodeAt f y k := by
  unfold docsF
  rw [at_dc, putLines_at, at_seq]
theorem open20 : (openOf noF 2020).1 = yrTurn noF 2020 1 := by
  have : openOf noF 2020 = (yrTurn noF 2020 1, 0) := by unfold openOf; rw [state_new]; rfl
  rw [this]
theorem chain_check (n : Int) (t : Nat) : checkY (chainF n t) 2020 = 0 := by
  have h : readOf (chainF n t) (yrK 2020) = 1 := by
    rw [chain_read (yr_nd 2020), open20]
    unfold yrTurn
    rw [readOf_upd _ _ _ _ (by unfold I64; omega), if_pos rfl]
  unfold checkY stateOf
  rw [h]; rfl
theorem chain_seq (n : Int) (t : Nat) : readOf (chainF n t) (seqKey 2) = 0 := by
  rw [chain_read (seq_nd 2), open20]
  unfold yrTurn
  rw [readOf_other (seq_yr 2 2020)]
  rfl
theorem pre_chain {n : Int} (hn : 1 ≤ n ∧ n ≤ 4294967296) {t a : Nat} (ht : t ≤ 7) (ha : 1 ≤ a) (hat : a ≤ t) :
    (preNew (chainF n t) 2020 [⟨0, 0, (a : Nat), n⟩]).2 = (1, false, 0) ∧ ∀ k : Nat, 1 ≤ k → k ≤ t → nodeAt (preNew (chainF n t) 2020 [⟨0, 0, (a : Nat), n⟩]).1 2020 (k : Nat) = some (nodeP n k (if k ≤ a then n else 0)) := by
  have hc : preCheck [⟨0, 0, (a : Nat), n⟩] = 0 := by
    have hw : wrongL ⟨0, 0, (a : Nat), n⟩ = false := by simp [wrongL, rightA]; omega
    unfold preCheck
    simp [hw]
  have hl : chargeL 2020 (ownL [⟨0, 0, (a : Nat), n⟩]) (chainF n t) false = (pF n a (chainF n t), false, 0) := by
    simp only [ownL, List.map_cons, List.map_nil, chargeL, charge_down hn ht ha hat]
    rfl
  have hs : readOf (pF n a (chainF n t)) (seqKey 2) = 0 := by
    rw [pF_read (seq_nd 2), chain_seq]
  have hd : ∀ d : Dc, docsPut (pF n a (chainF n t)) d (ownL [⟨0, 0, (a : Nat), n⟩]) = (docsF (pF n a (chainF n t)) 1 d (ownL [⟨0, 0, (a : Nat), n⟩]), 1, 0) := fun d => by
    unfold docsPut
    rw [if_neg (by simp [ownL]), if_neg (by rw [hs]; omega), hs]
    rfl
  have e : preNew (chainF n t) 2020 [⟨0, 0, (a : Nat), n⟩] = (docsF (pF n a (chainF n t)) 1 ⟨0, 1, 2020, 0, 0⟩ (ownL [⟨0, 0, (a : Nat), n⟩]), 1, false, 0) := by
    unfold preNew
    rw [if_neg (by rw [chain_check]; decide), if_neg (by rw [hc]; decide), hl]
    simp only [ne_eq, not_true_eq_false, if_false, hd]
    rfl
  rw [e]
  refine ⟨rfl, fun k hk1 hk2 => ?_⟩
  simp only
  rw [docsF_at, pF_at (by omega) a _ (by omega) k (by omega)]
  by_cases h : k ≤ a
  · rw [if_pos ⟨hk1, h⟩, if_pos h]
  · rw [if_neg (by omega), if_neg h, chain_at (by omega) t (by omega) k hk1 hk2]
def openSpec : Vm.Spec := fun args h Q => ∃ (am id deep : Int), (0 ≤ am ∧ am ≤ 4294967295) ∧ (0 ≤ id ∧ id ≤ 255) ∧ (0 ≤ deep ∧ deep ≤ 255) ∧ args = [.v (.int .u32 am), .v (.int .u8 id), .v (.int .u8 deep)] ∧ ∀ h', Q (.v (.bool true)) h'
set_option maxRecDepth 20000 in
set_option maxHeartbeats 4000000 in
theorem does_preOpen : Does Tryz.prog 3 openSpec := by
  refine does_of_awp (good_cons does_begun (good_cons does_preNew (good_cons does_tget (good_cons does_law31awake good_nil)))) Tryz.func3 rfl (by decide +kernel) (by decide +kernel) ?_
  rintro args h Q ⟨am, id, deep, ham, hid, hdeep, rfl, hq⟩
  refine ⟨by simp [Tryz.f3], ?_⟩
  rw [awpFunc_some (by rfl)]
  have hwam : IntKind.i64.wrap am = am := wrap_i64 (by omega) (by omega)
  have hwid : IntKind.i64.wrap id = id := wrap_i64 (by omega) (by omega)
  have hwn : IntKind.i64.wrap (1 + am) = 1 + am := wrap_i64 (by omega) (by omega)
  obtain ⟨t, ht1, ht7, hte⟩ : ∃ t : Nat, 1 ≤ t ∧ t ≤ 7 ∧ 1 + deep.tmod 7 = (t : Nat) := ⟨(1 + deep % 7).toNat, by omega, by omega, by rw [Int.tmod_eq_emod_of_nonneg (by omega)]; omega⟩
  have hwt1 : IntKind.i64.wrap (deep.tmod 7) = deep.tmod 7 := wrap_i64 (by omega) (by omega)
  have hwt : IntKind.i64.wrap (1 + deep.tmod 7) = (t : Nat) := by rw [hte]; exact wrap_i64 (by omega) (by omega)
  simp -dsimp only [Vm.E, List.lookup, Nat.reduceAdd, Nat.reduceBEq, Int.reduceBNe, Int.reduceBEq, Bool.true_beq, Bool.false_beq, Vm.S, Nat.reduceLeDiff, q3, hwam, hwn]
  refine rem_intro (by decide) ?_
  simp -dsimp only [Vm.E, List.lookup, Nat.reduceAdd, Nat.reduceBEq, Int.reduceBNe, Int.reduceBEq, Bool.true_beq, Bool.false_beq, Vm.S, Nat.reduceLeDiff, q3, hwt1, hwt]
  obtain ⟨n, hn⟩ : ∃ n, n = 1 + am := ⟨_, rfl⟩
  rw [← hn]
  have hnr : 1 ≤ n ∧ n ≤ 4294967296 := by omega
  clear hn hwn hwam hwt hwt1 hte ham hdeep
  refine awp_loop (fun m s h' => ∃ i : Nat, i + m = t ∧ h' = h ∧ s = mk [(1, .v (.int .u8 id)), (7, .v (.int .i64 n)), (8, .v (.int .i64 t)), (9, .own true 25 12 (((List.range (i)).map (bareN n)).map ndAv)), (28, .v (.int .i64 t)), (29, .v (.int .i64 (i : Nat)))])
    t _ (le_mk _ ?_) ⟨0, by omega, rfl, rfl⟩ ?_
  · simp only [List.forall_mem_cons, List.not_mem_nil, false_imp_iff, implies_true, and_true]
    try simp -dsimp only [Vm.E, List.lookup, Nat.reduceAdd, Nat.reduceBEq, Int.reduceBNe, Int.reduceBEq, Bool.true_beq, Bool.false_beq, Vm.S, Nat.reduceLeDiff, q3]
    repeat' first | exact Fg.refl _ | exact Fg.nil _ _ _ (by decide) | refine And.intro ?_ ?_
  · rintro m s h' ⟨i, hi, rfl, rfl⟩
    simp -dsimp only [Vm.E, List.lookup, Nat.reduceAdd, Nat.reduceBEq, Int.reduceBNe, Int.reduceBEq, Bool.true_beq, Bool.false_beq, Vm.S, Nat.reduceLeDiff, q3]
    refine cond_intro (fun hcc => ?_) (fun hcc => ?_)
    · have hlt : i < t := by have := of_decide_eq_true hcc; omega
      have hw : IntKind.i64.wrap ((i : Int) + 1) = (i : Int) + 1 := wrap_i64 (by omega) (by omega)
      have hc1 : (i : Int) + 1 = ((i + 1 : Nat) : Int) := by omega
      have est : ((List.range (i + 1)).map (bareN n)).map ndAv = ((List.range i).map (bareN n)).map ndAv ++ [ndAv (bareN n i)] := by rw [List.range_succ, List.map_append, List.map_append]; rfl
      have hll : (((List.range i).map (bareN n)).map ndAv).length = i := by simp
      have eb : ndAv (bareN n i) = .agg [.v (.int .i64 0), .v (.int .i64 ((i : Int) + 1)), .v (.int .i64 i), .v (.int .i64 0), .v (.int .i64 0), .v (.bool false), .v (.int .i64 n), .v (.int .i64 0), .v (.int .i64 0), .v (.int .i64 0), .v (.int .i64 0), .v (.int .i64 0)] := rfl
      simp -dsimp only [Vm.E, List.lookup, Nat.reduceAdd, Nat.reduceBEq, Int.reduceBNe, Int.reduceBEq, Bool.true_beq, Bool.false_beq, Vm.S, Nat.reduceLeDiff, q3, hw]
      refine bs_intro zr25 (by decide) (by decide) rfl rfl (by simp [solid, AV.cells]) ?_
      simp -dsimp only [Vm.E, List.lookup, Nat.reduceAdd, Nat.reduceBEq, Int.reduceBNe, Int.reduceBEq, Bool.true_beq, Bool.false_beq, Vm.S, Nat.reduceLeDiff, q3]
      refine app_sl Tryz.underlying23 (by simp [AV.cells]) (by rw [hll]; simp only [List.length_cons, List.length_nil]; omega) ?_
      simp -dsimp only [Vm.E, List.lookup, Nat.reduceAdd, Nat.reduceBEq, Int.reduceBNe, Int.reduceBEq, Bool.true_beq, Bool.false_beq, Vm.S, Nat.reduceLeDiff, q3]
      refine kept_intro ⟨t - (i + 1), by omega, _, le_mk [(1, .v (.int .u8 id)), (7, .v (.int .i64 n)), (8, .v (.int .i64 t)), (9, .own true 25 12 (((List.range (i + 1)).map (bareN n)).map ndAv)), (28, .v (.int .i64 t)), (29, .v (.int .i64 (i + 1 : Nat)))] ?_, i + 1, by omega, rfl, rfl⟩
      have hw2 : IntKind.i64.wrap ((i + 1 : Nat) : Int) = ((i + 1 : Nat) : Int) := wrap_i64 (by omega) (by omega)
      simp only [List.forall_mem_cons, List.not_mem_nil, false_imp_iff, implies_true, and_true, hw, est, eb, hc1, hw2]
      try simp -dsimp only [Vm.E, List.lookup, Nat.reduceAdd, Nat.reduceBEq, Int.reduceBNe, Int.reduceBEq, Bool.true_beq, Bool.false_beq, Vm.S, Nat.reduceLeDiff, q3, hw, est, eb, hc1, hw2]
      repeat' first | exact Fg.refl _ | exact Fg.nil _ _ _ (by decide) | refine And.intro ?_ ?_
    · have hge : ¬ i < t := by have := of_decide_eq_false hcc; omega
      obtain rfl : i = t := by omega
      have hbl : ((List.range i).map (bareN n)).length = i := by simp
      have hbok : ∀ x ∈ (List.range i).map (bareN n), x.ok := fun x hx => by
        obtain ⟨j, hj, rfl⟩ := List.mem_map.1 hx
        have hj := List.mem_range.1 hj
        simp only [Nd.ok, bareN, Nd.zero, I64]
        omega
      simp -dsimp only [Vm.E, List.lookup, Nat.reduceAdd, Nat.reduceBEq, Int.reduceBNe, Int.reduceBEq, Bool.true_beq, Bool.false_beq, Vm.S, Nat.reduceLeDiff, q3]
      refine call_one (S := begunSpec) rfl _ GaL.rfl ⟨(List.range i).map (bareN n), by omega, hbok, rfl, fun V R h1 hB => ?_⟩
      rw [begun_chain] at hB
      obtain ⟨a, ha1, hat, hae⟩ : ∃ a : Nat, 1 ≤ a ∧ a ≤ i ∧ 1 + id.tmod (i : Int) = (a : Nat) := by
        have h1 := Int.emod_nonneg id (b := (i : Int)) (by omega)
        have h2 := Int.emod_lt_of_pos id (b := (i : Int)) (by omega)
        exact ⟨(1 + id % (i : Int)).toNat, by omega, by omega, by rw [Int.tmod_eq_emod_of_nonneg (by omega)]; omega⟩
      have hwa : IntKind.i64.wrap (1 + id.tmod (i : Int)) = (a : Nat) := by rw [hae]; exact wrap_i64 (by omega) (by omega)
      simp -dsimp only [Vm.E, List.lookup, Nat.reduceAdd, Nat.reduceBEq, Int.reduceBNe, Int.reduceBEq, Bool.true_beq, Bool.false_beq, Vm.S, Nat.reduceLeDiff, q3, hwid]
      refine rem_intro (by omega) ?_
      obtain ⟨p1, p2⟩ := pre_chain hnr (t := i) ht7 ha1 hat
      have hlok : ∀ x ∈ ([⟨0, 0, (a : Nat), n⟩] : List Ln), x.ok := fun x hx => by
        simp only [List.mem_cons, List.not_mem_nil, or_false] at hx
        subst hx
        simp only [Ln.ok, I64]; omega
      simp -dsimp only [Vm.E, List.lookup, Nat.reduceAdd, Nat.reduceBEq, Int.reduceBNe, Int.reduceBEq, Bool.true_beq, Bool.false_beq, Vm.S, Nat.reduceLeDiff, q3, hwa]
      refine bs_intro zr34 (by decide) (by decide) rfl rfl (by simp [solid, AV.cells]) ?_
      simp -dsimp only [Vm.E, List.lookup, Nat.reduceAdd, Nat.reduceBEq, Int.reduceBNe, Int.reduceBEq, Bool.true_beq, Bool.false_beq, Vm.S, Nat.reduceLeDiff, q3]
      refine call_one (S := preNewSpec) rfl _ GaL.rfl ⟨V, chainF n i, 2020, [⟨0, 0, (a : Nat), n⟩], by unfold I64; omega, by simp, hlok, rfl, hB.1, fun h2 g1 g2 => ?_⟩
      generalize preNew (chainF n i) 2020 [⟨0, 0, (a : Nat), n⟩] = q at g1 p1 p2 ⊢
      obtain ⟨qf, qi, qw, qe⟩ := q
      simp only [Prod.mk.injEq] at p1
      obtain ⟨rfl, rfl, rfl⟩ := p1
      simp only at p2 g1 ⊢
      obtain ⟨t, rfl⟩ : ∃ t, t = i := ⟨_, rfl⟩
      clear hi hcc hge hbl hbok hB hae hwa
      simp -dsimp only [Vm.E, List.lookup, Nat.reduceAdd, Nat.reduceBEq, Int.reduceBNe, Int.reduceBEq, Bool.true_beq, Bool.false_beq, Vm.S, Nat.reduceLeDiff, q3]
      refine awp_loop (fun m s h' => ∃ i : Nat, i + m = t ∧ h' = h2 ∧ s = mk [(7, .v (.int .i64 n)), (8, .v (.int .i64 t)), (11, .ptr V.iv 0), (13, .v (.int .i64 a)), (70, .v (.int .i64 t)), (71, .v (.int .i64 (i : Nat)))])
        t _ (le_mk _ ?_) ⟨0, by omega, rfl, rfl⟩ ?_
      · simp only [List.forall_mem_cons, List.not_mem_nil, false_imp_iff, implies_true, and_true]
        try simp -dsimp only [Vm.E, List.lookup, Nat.reduceAdd, Nat.reduceBEq, Int.reduceBNe, Int.reduceBEq, Bool.true_beq, Bool.false_beq, Vm.S, Nat.reduceLeDiff, q3]
        repeat' first | exact Fg.refl _ | exact Fg.nil _ _ _ (by decide) | refine And.intro ?_ ?_
      · rintro m s h3 ⟨i, hi, rfl, rfl⟩
        simp -dsimp only [Vm.E, List.lookup, Nat.reduceAdd, Nat.reduceBEq, Int.reduceBNe, Int.reduceBEq, Bool.true_beq, Bool.false_beq, Vm.S, Nat.reduceLeDiff, q3]
        refine cond_intro (fun hcc => ?_) (fun hcc => ?_)
        · have hlt : i < t := by have := of_decide_eq_true hcc; omega
          have hw : IntKind.i64.wrap ((i : Int) + 1) = ((i + 1 : Nat) : Int) := by rw [wrap_i64 (by omega) (by omega)]; simp
          have hnd := p2 (i + 1) (by omega) (by omega)
          simp -dsimp only [Vm.E, List.lookup, Nat.reduceAdd, Nat.reduceBEq, Int.reduceBNe, Int.reduceBEq, Bool.true_beq, Bool.false_beq, Vm.S, Nat.reduceLeDiff, q3, hw]
          refine call_one (S := tgetSpec) rfl _ GaL.rfl ⟨V, qf, 2020, ((i + 1 : Nat) : Int), rfl, g1, fun m2 hm => ?_, fun hm => by rw [hnd] at hm; cases hm⟩
          rw [hnd] at hm
          cases hm
          simp only [ndCells]
          by_cases hle : i + 1 ≤ a
          · have c1 : decide (((i + 1 : Nat) : Int) ≤ (a : Nat)) = true := decide_eq_true (by omega)
            have c2 : ((nodeP n (i + 1) (if i + 1 ≤ a then n else 0)).pre != n) = false := by rw [if_pos hle]; show (n != n) = false; simp
            simp -dsimp only [Vm.E, List.lookup, Nat.reduceAdd, Nat.reduceBEq, Int.reduceBNe, Int.reduceBEq, Bool.true_beq, Bool.false_beq, Vm.S, Nat.reduceLeDiff, q3, hw, c1, c2]
            refine kept_intro ⟨t - (i + 1), by omega, _, le_mk [(7, .v (.int .i64 n)), (8, .v (.int .i64 t)), (11, .ptr V.iv 0), (13, .v (.int .i64 a)), (70, .v (.int .i64 t)), (71, .v (.int .i64 (i + 1 : Nat)))] ?_, i + 1, by omega, rfl, rfl⟩
            simp only [List.forall_mem_cons, List.not_mem_nil, false_imp_iff, implies_true, and_true, hw]
            try simp -dsimp only [Vm.E, List.lookup, Nat.reduceAdd, Nat.reduceBEq, Int.reduceBNe, Int.reduceBEq, Bool.true_beq, Bool.false_beq, Vm.S, Nat.reduceLeDiff, q3, hw]
            repeat' first | exact Fg.refl _ | exact Fg.nil _ _ _ (by decide) | refine And.intro ?_ ?_
          · have c1 : decide (((i + 1 : Nat) : Int) ≤ (a : Nat)) = false := decide_eq_false (by omega)
            have c2 : ((nodeP n (i + 1) (if i + 1 ≤ a then n else 0)).pre != 0) = false := by rw [if_neg hle]; rfl
            simp -dsimp only [Vm.E, List.lookup, Nat.reduceAdd, Nat.reduceBEq, Int.reduceBNe, Int.reduceBEq, Bool.true_beq, Bool.false_beq, Vm.S, Nat.reduceLeDiff, q3, hw, c1, c2]
            refine kept_intro ⟨t - (i + 1), by omega, _, le_mk [(7, .v (.int .i64 n)), (8, .v (.int .i64 t)), (11, .ptr V.iv 0), (13, .v (.int .i64 a)), (70, .v (.int .i64 t)), (71, .v (.int .i64 (i + 1 : Nat)))] ?_, i + 1, by omega, rfl, rfl⟩
            simp only [List.forall_mem_cons, List.not_mem_nil, false_imp_iff, implies_true, and_true, hw]
            try simp -dsimp only [Vm.E, List.lookup, Nat.reduceAdd, Nat.reduceBEq, Int.reduceBNe, Int.reduceBEq, Bool.true_beq, Bool.false_beq, Vm.S, Nat.reduceLeDiff, q3, hw]
            repeat' first | exact Fg.refl _ | exact Fg.nil _ _ _ (by decide) | refine And.intro ?_ ?_
        · simp -dsimp only [Vm.E, List.lookup, Nat.reduceAdd, Nat.reduceBEq, Int.reduceBNe, Int.reduceBEq, Bool.true_beq, Bool.false_beq, Vm.S, Nat.reduceLeDiff, q3]
          refine call_one (S := trueSpec) rfl _ GaL.rfl ⟨rfl, fun hz => ?_⟩
          simp -dsimp only [Vm.E, List.lookup, Nat.reduceAdd, Nat.reduceBEq, Int.reduceBNe, Int.reduceBEq, Bool.true_beq, Bool.false_beq, Vm.S, Nat.reduceLeDiff, q3]
          exact hq _
theorem isA_un {k : IntKind} {x : AV} (h : IsA (.int k) x) : ∃ n : Int, k.min ≤ n ∧ n ≤ k.max ∧ x = .v (.int k n) := by
  simp only [IsA] at h
  obtain ⟨n, hn, rfl⟩ := h
  simp only [Lit.wf, Bool.and_eq_true, decide_eq_true_eq] at hn
  exact ⟨n, hn.1, hn.2, rfl⟩
theorem open_args {y0 y1 y2 : AV} (i0 : IsA (.int .u32) y0) (i1 : IsA (.int .u8) y1) (i2 : IsA (.int .u8) y2) {Q : AV → Heap → Prop} (hq : ∀ h', Q (.v (.bool true)) h') : openSpec [y0, y1, y2] [] Q := by
  obtain ⟨a, a1, a2, rfl⟩ := isA_un i0
  obtain ⟨b, b1, b2, rfl⟩ := isA_un i1
  obtain ⟨c, c1, c2, rfl⟩ := isA_un i2
  have e1 : IntKind.u32.min = 0 := by decide
  have e2 : IntKind.u32.max = 4294967295 := by decide
  have e3 : IntKind.u8.min = 0 := by decide
  have e4 : IntKind.u8.max = 255 := by decide
  rw [e1] at a1; rw [e2] at a2; rw [e3] at b1 c1; rw [e4] at b2 c2
  exact ⟨a, b, c, ⟨a1, a2⟩, ⟨b1, b2⟩, ⟨c1, c2⟩, rfl, hq⟩
end Go.Proofs.Lx
/- The law TreeTells. -/
set_option linter.unusedSimpArgs false
set_option linter.unusedVariables false
namespace Go.Proofs.Lx
open Go.Vm
attribute [local irreducible] awpArr awpBin awpMake awpAppend awpCvX awpStrOf awpBinX awpSlice awpBS awpStore awpAlloc awpCopy awpIndex awpDraw awpIdxX awpFa awpField awpLookup awpUpdate awpDelete awpClear awpRange awpNext awpEntry awpBuild awpClearS awpIdxL awpTree appB awpIdxO eltA treeA
theorem bool_eql {a b : Bool} {KV : Value → Prop} : awpBin Tryz.prog .eql 4 (.v (.bool a)) (.v (.bool b)) KV = KV (.bool (a == b)) := by simp [awpBin, Tryz.underlying4]
def tellsSpec : Vm.Spec := fun args h Q => ∃ (first : List KV) (l : List Nd) (year id : Int), first.length ≤ 9223372036854775807 ∧ l.length ≤ 9223372036854775807 ∧ (∀ n ∈ l, n.ok) ∧ args = [.sl 2 (first.map kvAv), .sl 12 (l.map ndAv), .v (.int .i64 year), .v (.int .i64 id)] ∧ ∀ h', Q (.v (.bool true)) h'
set_option maxRecDepth 20000 in
set_option maxHeartbeats 4000000 in
theorem does_tells : Does Tryz.prog 10 tellsSpec := by
  refine does_of_awp (good_cons does_few (good_cons does_vnewA (good_cons does_rNewA (good_cons does_vput (good_cons does_rSet (good_cons does_tput (good_cons does_rtPut (good_cons does_used (good_cons does_rtUsed (good_cons does_tget (good_cons does_rtGet (good_cons does_tkids (good_cons does_rtKids (good_cons does_eqNd (good_cons does_tpath (good_cons does_rtPath (good_cons does_tall (good_cons does_rtAll (good_cons does_given (good_cons does_rtGiven (good_cons does_law28awake good_nil))))))))))))))))))))) Tryz.func10 rfl (by decide +kernel) (by decide +kernel) ?_
  rintro args h Q ⟨first, l, year, id, hfl, hl, hok, rfl, hq⟩
  refine ⟨by simp [Tryz.f10], ?_⟩
  rw [awpFunc_some (by rfl)]
  simp -dsimp only [Vm.E, List.lookup, Nat.reduceAdd, Nat.reduceBEq, Int.reduceBNe, Int.reduceBEq, Bool.true_beq, Bool.false_beq, Vm.S, Nat.reduceLeDiff, q10]
  refine call_one (S := fewSpec) rfl _ GaL.rfl ⟨first, 30, hfl, rfl, ?_⟩
  cases cf : fewOf first 30
  · simp -dsimp only [Vm.E, List.lookup, Nat.reduceAdd, Nat.reduceBEq, Int.reduceBNe, Int.reduceBEq, Bool.true_beq, Bool.false_beq, Vm.S, Nat.reduceLeDiff, q10]
    refine call_one (S := trueSpec) rfl _ GaL.rfl ⟨rfl, fun hz => ?_⟩
    simp -dsimp only [Vm.E, List.lookup, Nat.reduceAdd, Nat.reduceBEq, Int.reduceBNe, Int.reduceBEq, Bool.true_beq, Bool.false_beq, Vm.S, Nat.reduceLeDiff, q10]
    exact hq _
  · have hf20 := few_true cf
    simp -dsimp only [Vm.E, List.lookup, Nat.reduceAdd, Nat.reduceBEq, Int.reduceBNe, Int.reduceBEq, Bool.true_beq, Bool.false_beq, Vm.S, Nat.reduceLeDiff, q10]
    cases c60 : decide ((l.length : Int) > 30)
    · have d60 := of_decide_eq_false c60
      simp -dsimp only [Vm.E, List.lookup, Nat.reduceAdd, Nat.reduceBEq, Int.reduceBNe, Int.reduceBEq, Bool.true_beq, Bool.false_beq, Vm.S, Nat.reduceLeDiff, q10]
      refine call_one (S := vnewASpec) rfl _ GaL.rfl ⟨rfl, fun V h00 hV00 => ?_⟩
      simp -dsimp only [Vm.E, List.lookup, Nat.reduceAdd, Nat.reduceBEq, Int.reduceBNe, Int.reduceBEq, Bool.true_beq, Bool.false_beq, Vm.S, Nat.reduceLeDiff, q10]
      refine call_one (S := rNewASpec) rfl _ (.cons (.nil 2) .nil) ⟨V, rfl, hV00, fun R h0 hB0 => ?_⟩
      clear hV00
      simp -dsimp only [Vm.E, List.lookup, Nat.reduceAdd, Nat.reduceBEq, Int.reduceBNe, Int.reduceBEq, Bool.true_beq, Bool.false_beq, Vm.S, Nat.reduceLeDiff, q10]
      refine awp_loop (fun m s h' => ∃ (i : Nat) (f : Fun), i + m = first.length ∧ Both h' V R f ∧ f.n ≤ i ∧ s = mk [(1, .sl 12 (l.map ndAv)), (2, .v (.int .i64 year)), (3, .v (.int .i64 id)),(9, .ptr V.iv 0), (10, .ptr R.iv 0), (30, .sl 2 (first.map kvAv)), (31, .v (.int .i64 first.length)), (32, .v (.int .i64 i))])
        first.length _ (le_mk _ ?_) ⟨0, noF, by omega, hB0, Nat.le_refl _, rfl⟩ ?_
      · simp only [List.forall_mem_cons, List.not_mem_nil, false_imp_iff, implies_true, and_true]
        try simp -dsimp only [Vm.E, List.lookup, Nat.reduceAdd, Nat.reduceBEq, Int.reduceBNe, Int.reduceBEq, Bool.true_beq, Bool.false_beq, Vm.S, Nat.reduceLeDiff, q10]
        repeat' first | exact Fg.refl _ | exact Fg.nil _ _ _ (by decide) | refine And.intro ?_ ?_
      · clear hB0
        rintro m s h' ⟨i, f, hi, hB, hfn, rfl⟩
        simp -dsimp only [Vm.E, List.lookup, Nat.reduceAdd, Nat.reduceBEq, Int.reduceBNe, Int.reduceBEq, Bool.true_beq, Bool.false_beq, Vm.S, Nat.reduceLeDiff, q10]
        refine cond_intro (fun hcc => ?_) (fun hcc => ?_)
        · have hlt : i < first.length := by have := of_decide_eq_true hcc; omega
          have hw : IntKind.i64.wrap ((i : Int) + 1) = ((i + 1 : Nat) : Int) := by rw [wrap_i64 (by omega) (by omega)]; simp
          obtain ⟨p, hp⟩ : ∃ p, first[i] = p := ⟨_, rfl⟩
          have hnn := addKV_n f p
          simp -dsimp only [Vm.E, List.lookup, Nat.reduceAdd, Nat.reduceBEq, Int.reduceBNe, Int.reduceBEq, Bool.true_beq, Bool.false_beq, Vm.S, Nat.reduceLeDiff, q10]
          refine idx_map kvAv first i hlt ?_
          simp only [hp, kvAv]
          simp -dsimp only [Vm.E, List.lookup, Nat.reduceAdd, Nat.reduceBEq, Int.reduceBNe, Int.reduceBEq, Bool.true_beq, Bool.false_beq, Vm.S, Nat.reduceLeDiff, q10, AV.cells]
          refine call_one (S := vputSpec) rfl _ GaL.rfl ⟨V, f, p.1, p.2, rfl, hB.1, fun hr h1 g1 g2 => ?_, fun hr => ?_⟩
          · have hR1 := hB.view g1 g2
            have ea : upd f p.1 (some p.2) = addKV f p := by unfold addKV; rw [if_pos hr]
            rw [ea] at g1
            simp -dsimp only [Vm.E, List.lookup, Nat.reduceAdd, Nat.reduceBEq, Int.reduceBNe, Int.reduceBEq, Bool.true_beq, Bool.false_beq, Vm.S, Nat.reduceLeDiff, q10]
            refine call_one (S := rSetSpec) rfl _ GaL.rfl ⟨R, f, p, rfl, hR1, by omega, fun h2 g3 g4 => ?_⟩
            have hB2 := hB.ref g1 g3 g4
            simp -dsimp only [Vm.E, List.lookup, Nat.reduceAdd, Nat.reduceBEq, Int.reduceBNe, Int.reduceBEq, Bool.true_beq, Bool.false_beq, Vm.S, Nat.reduceLeDiff, q10]
            refine kept_intro ⟨first.length - (i + 1), by omega, _, le_mk [(1, .sl 12 (l.map ndAv)), (2, .v (.int .i64 year)), (3, .v (.int .i64 id)),(9, .ptr V.iv 0), (10, .ptr R.iv 0), (30, .sl 2 (first.map kvAv)), (31, .v (.int .i64 first.length)), (32, .v (.int .i64 (i + 1 : Nat)))] ?_, i + 1, addKV f p, by omega, hB2, by omega, rfl⟩
            simp only [List.forall_mem_cons, List.not_mem_nil, false_imp_iff, implies_true, and_true, hw]
            try simp -dsimp only [Vm.E, List.lookup, Nat.reduceAdd, Nat.reduceBEq, Int.reduceBNe, Int.reduceBEq, Bool.true_beq, Bool.false_beq, Vm.S, Nat.reduceLeDiff, q10, hw]
            repeat' first | exact Fg.refl _ | exact Fg.nil _ _ _ (by decide) | refine And.intro ?_ ?_
          · have ea : f = addKV f p := by unfold addKV; rw [if_neg (by rw [hr]; decide)]
            have hV1 : isView h' V (addKV f p) := by rw [← ea]; exact hB.1
            simp -dsimp only [Vm.E, List.lookup, Nat.reduceAdd, Nat.reduceBEq, Int.reduceBNe, Int.reduceBEq, Bool.true_beq, Bool.false_beq, Vm.S, Nat.reduceLeDiff, q10]
            refine call_one (S := rSetSpec) rfl _ GaL.rfl ⟨R, f, p, rfl, hB.2.1, by omega, fun h2 g3 g4 => ?_⟩
            have hB2 := hB.ref hV1 g3 g4
            simp -dsimp only [Vm.E, List.lookup, Nat.reduceAdd, Nat.reduceBEq, Int.reduceBNe, Int.reduceBEq, Bool.true_beq, Bool.false_beq, Vm.S, Nat.reduceLeDiff, q10]
            refine kept_intro ⟨first.length - (i + 1), by omega, _, le_mk [(1, .sl 12 (l.map ndAv)), (2, .v (.int .i64 year)), (3, .v (.int .i64 id)),(9, .ptr V.iv 0), (10, .ptr R.iv 0), (30, .sl 2 (first.map kvAv)), (31, .v (.int .i64 first.length)), (32, .v (.int .i64 (i + 1 : Nat)))] ?_, i + 1, addKV f p, by omega, hB2, by omega, rfl⟩
            simp only [List.forall_mem_cons, List.not_mem_nil, false_imp_iff, implies_true, and_true, hw]
            try simp -dsimp only [Vm.E, List.lookup, Nat.reduceAdd, Nat.reduceBEq, Int.reduceBNe, Int.reduceBEq, Bool.true_beq, Bool.false_beq, Vm.S, Nat.reduceLeDiff, q10, hw]
            repeat' first | exact Fg.refl _ | exact Fg.nil _ _ _ (by decide) | refine And.intro ?_ ?_
        · clear hcc
          simp -dsimp only [Vm.E, List.lookup, Nat.reduceAdd, Nat.reduceBEq, Int.reduceBNe, Int.reduceBEq, Bool.true_beq, Bool.false_beq, Vm.S, Nat.reduceLeDiff, q10]
          refine awp_loop (fun m s h' => ∃ (i : Nat) (f : Fun), i + m = l.length ∧ Both h' V R f ∧ f.n ≤ 30 + i ∧ s = mk [(1, .sl 12 (l.map ndAv)), (2, .v (.int .i64 year)), (3, .v (.int .i64 id)), (9, .ptr V.iv 0), (10, .ptr R.iv 0), (46, .sl 12 (l.map ndAv)), (47, .v (.int .i64 l.length)), (48, .v (.int .i64 (i : Nat)))])
            l.length _ (le_mk _ ?_) ⟨0, f, by omega, hB, by omega, rfl⟩ ?_
          · simp only [List.forall_mem_cons, List.not_mem_nil, false_imp_iff, implies_true, and_true]
            try simp -dsimp only [Vm.E, List.lookup, Nat.reduceAdd, Nat.reduceBEq, Int.reduceBNe, Int.reduceBEq, Bool.true_beq, Bool.false_beq, Vm.S, Nat.reduceLeDiff, q10]
            repeat' first | exact Fg.refl _ | exact Fg.nil _ _ _ (by decide) | refine And.intro ?_ ?_
          · clear hB hfn hi
            rintro m s h' ⟨i, f, hi, hB, hfn, rfl⟩
            simp -dsimp only [Vm.E, List.lookup, Nat.reduceAdd, Nat.reduceBEq, Int.reduceBNe, Int.reduceBEq, Bool.true_beq, Bool.false_beq, Vm.S, Nat.reduceLeDiff, q10]
            refine cond_intro (fun hcc => ?_) (fun hcc => ?_)
            · have hlt : i < l.length := by have := of_decide_eq_true hcc; omega
              have hw : IntKind.i64.wrap ((i : Int) + 1) = ((i + 1 : Nat) : Int) := by rw [wrap_i64 (by omega) (by omega)]; simp
              have ho := hok l[i] (List.getElem_mem hlt)
              simp -dsimp only [Vm.E, List.lookup, Nat.reduceAdd, Nat.reduceBEq, Int.reduceBNe, Int.reduceBEq, Bool.true_beq, Bool.false_beq, Vm.S, Nat.reduceLeDiff, q10]
              refine idx_map ndAv l i hlt ?_
              generalize l[i] = n at ho
              have hnn : (upd f (ndK n) (some (ndV n))).n = f.n + 1 := rfl
              simp only [ndAv, ndCells]
              simp -dsimp only [Vm.E, List.lookup, Nat.reduceAdd, Nat.reduceBEq, Int.reduceBNe, Int.reduceBEq, Bool.true_beq, Bool.false_beq, Vm.S, Nat.reduceLeDiff, q10, AV.cells]
              refine draw_cont [14] (.take 0 (.take 1 (.take 3 (.take 4 (.alt 2 (.alt 5 (.take 6 (.take 7 (.take 8 (.take 10 (.alt 9 (.alt 11 (.take 12 (.take 13 (.done))) .stop) .stop))))) .stop) .stop))))) (fun s h2 => Both h2 V R (upd f (ndK n) (some (ndV n))) ∧ s 65 = .v (.bool false) ∧ s 1 = .sl 12 (l.map ndAv) ∧ s 2 = .v (.int .i64 year) ∧ s 3 = .v (.int .i64 id) ∧ s 9 = .ptr V.iv 0 ∧ s 10 = .ptr R.iv 0 ∧ s 46 = .sl 12 (l.map ndAv) ∧ s 47 = .v (.int .i64 l.length) ∧ s 48 = .v (.int .i64 i)) (by kernel_rfl) (by kernel_rfl) (by kernel_rfl) (by decide) ?_ ?_
              · simp -dsimp only [Vm.E, List.lookup, Nat.reduceAdd, Nat.reduceBEq, Int.reduceBNe, Int.reduceBEq, Bool.true_beq, Bool.false_beq, Vm.S, Nat.reduceLeDiff, q10]
                refine call_one (S := tputSpec) rfl _ GaL.rfl ⟨V, f, n, rfl, ho, hB.1, fun h2 g1 g2 => ?_⟩
                simp -dsimp only [Vm.E, List.lookup, Nat.reduceAdd, Nat.reduceBEq, Int.reduceBNe, Int.reduceBEq, Bool.true_beq, Bool.false_beq, Vm.S, Nat.reduceLeDiff, q10]
                refine call_one (S := rtPutSpec) rfl _ GaL.rfl ⟨R, f, n, rfl, ho, hB.view g1 g2, by omega, fun h3 g3 g4 => ?_⟩
                simp -dsimp only [Vm.E, List.lookup, Nat.reduceAdd, Nat.reduceBEq, Int.reduceBNe, Int.reduceBEq, Bool.true_beq, Bool.false_beq, Vm.S, Nat.reduceLeDiff, q10, bne_self_eq_false]
                refine call_one (S := usedSpec) rfl _ GaL.rfl ⟨n, rfl, ?_⟩
                simp -dsimp only [Vm.E, List.lookup, Nat.reduceAdd, Nat.reduceBEq, Int.reduceBNe, Int.reduceBEq, Bool.true_beq, Bool.false_beq, Vm.S, Nat.reduceLeDiff, q10]
                refine call_one (S := usedSpec) rfl _ GaL.rfl ⟨n, rfl, ?_⟩
                simp -dsimp only [Vm.E, List.lookup, Nat.reduceAdd, Nat.reduceBEq, Int.reduceBNe, Int.reduceBEq, Bool.true_beq, Bool.false_beq, Vm.S, Nat.reduceLeDiff, q10, bne_self_eq_false]
                refine ⟨hB.ref g1 g3 g4, ?_⟩
                repeat' first | rfl | exact True.intro | refine And.intro ?_ ?_
              · rintro s h2 ⟨hB2, e65, e1, e2, e3, e9, e10, e46, e47, e48⟩
                simp -dsimp only [Vm.E, List.lookup, Nat.reduceAdd, Nat.reduceBEq, Int.reduceBNe, Int.reduceBEq, Bool.true_beq, Bool.false_beq, Vm.S, Nat.reduceLeDiff, q10, e65, e1, e2, e3, e9, e10, e46, e47, e48]
                refine kept_intro ⟨l.length - (i + 1), by omega, _, le_mk [(1, .sl 12 (l.map ndAv)), (2, .v (.int .i64 year)), (3, .v (.int .i64 id)), (9, .ptr V.iv 0), (10, .ptr R.iv 0), (46, .sl 12 (l.map ndAv)), (47, .v (.int .i64 l.length)), (48, .v (.int .i64 (i + 1 : Nat)))] ?_, i + 1, _, by omega, hB2, by omega, rfl⟩
                simp only [List.forall_mem_cons, List.not_mem_nil, false_imp_iff, implies_true, and_true, hw, e1, e2, e3, e9, e10, e46, e47, e48]
                try simp -dsimp only [Vm.E, List.lookup, Nat.reduceAdd, Nat.reduceBEq, Int.reduceBNe, Int.reduceBEq, Bool.true_beq, Bool.false_beq, Vm.S, Nat.reduceLeDiff, q10, hw, e1, e2, e3, e9, e10, e46, e47, e48]
                repeat' first | exact Fg.refl _ | exact Fg.nil _ _ _ (by decide) | refine And.intro ?_ ?_
            · have hge : ¬ i < l.length := by have := of_decide_eq_false hcc; omega
              clear hcc
              simp -dsimp only [Vm.E, List.lookup, Nat.reduceAdd, Nat.reduceBEq, Int.reduceBNe, Int.reduceBEq, Bool.true_beq, Bool.false_beq, Vm.S, Nat.reduceLeDiff, q10]
              refine call_one (S := tgetSpec) rfl _ GaL.rfl ⟨V, f, year, id, rfl, hB.1, fun n hno => ?_, fun hno => ?_⟩
              · simp only [ndCells]
                simp -dsimp only [Vm.E, List.lookup, Nat.reduceAdd, Nat.reduceBEq, Int.reduceBNe, Int.reduceBEq, Bool.true_beq, Bool.false_beq, Vm.S, Nat.reduceLeDiff, q10]
                refine call_one (S := rtGetSpec) rfl _ GaL.rfl ⟨R, f, year, id, rfl, hB.2.1, by omega, fun n2 hno2 => ?_, fun hno2 => by rw [hno] at hno2; cases hno2⟩
                rw [hno] at hno2
                cases hno2
                simp only [ndCells]
                simp -dsimp only [Vm.E, List.lookup, Nat.reduceAdd, Nat.reduceBEq, Int.reduceBNe, Int.reduceBEq, Bool.true_beq, Bool.false_beq, Vm.S, Nat.reduceLeDiff, q10]
                refine eq_agg fd25 rfl ?_
                simp -dsimp only [Vm.E, List.lookup, Nat.reduceAdd, Nat.reduceBEq, Int.reduceBNe, Int.reduceBEq, Bool.true_beq, Bool.false_beq, Vm.S, Nat.reduceLeDiff, q10, bool_eql]
                have n2 := List.length_filterMap_le (inYear year)
                refine call_one (S := tkidsSpec) rfl _ GaL.rfl ⟨V, f, year, id, rfl, hB.1, by omega, fun l1 h3 hsc hln hV1 hs1 => ?_⟩
                have hB3 := hB.quiet hV1 hs1
                simp -dsimp only [Vm.E, List.lookup, Nat.reduceAdd, Nat.reduceBEq, Int.reduceBNe, Int.reduceBEq, Bool.true_beq, Bool.false_beq, Vm.S, Nat.reduceLeDiff, q10]
                refine call_one (S := rtKidsSpec) rfl _ GaL.rfl ⟨R, f, year, id, rfl, hB3.2.1, by omega, fun l2 hsc2 hln2 => ?_⟩
                obtain rfl := hsc.same hsc2
                have hk1 : (kidsN year id l1).length ≤ l1.length := Nat.le_trans (List.length_filter_le ..) (n2 l1)
                simp -dsimp only [Vm.E, List.lookup, Nat.reduceAdd, Nat.reduceBEq, Int.reduceBNe, Int.reduceBEq, Bool.true_beq, Bool.false_beq, Vm.S, Nat.reduceLeDiff, q10]
                refine call_one (S := eqSpecNd) rfl _ GaL.rfl ⟨kidsN year id l1, kidsN year id l1, by omega, rfl, fun b hb => ?_⟩
                obtain rfl : b = true := hb.2 rfl
                simp -dsimp only [Vm.E, List.lookup, Nat.reduceAdd, Nat.reduceBEq, Int.reduceBNe, Int.reduceBEq, Bool.true_beq, Bool.false_beq, Vm.S, Nat.reduceLeDiff, q10]
                refine call_one (S := tpathSpec) rfl _ GaL.rfl ⟨V, f, year, id, rfl, hB3.1, ?_⟩
                simp -dsimp only [Vm.E, List.lookup, Nat.reduceAdd, Nat.reduceBEq, Int.reduceBNe, Int.reduceBEq, Bool.true_beq, Bool.false_beq, Vm.S, Nat.reduceLeDiff, q10]
                refine call_one (S := rtPathSpec) rfl _ GaL.rfl ⟨R, f, year, id, rfl, hB3.2.1, by omega, ?_⟩
                have hp8 := pathOf_length f year 8 id
                generalize pathOf f year 8 id = pth at hp8 ⊢
                simp -dsimp only [Vm.E, List.lookup, Nat.reduceAdd, Nat.reduceBEq, Int.reduceBNe, Int.reduceBEq, Bool.true_beq, Bool.false_beq, Vm.S, Nat.reduceLeDiff, q10]
                refine call_one (S := eqSpecNd) rfl _ GaL.rfl ⟨pth, pth, by omega, rfl, fun b hb => ?_⟩
                obtain rfl : b = true := hb.2 rfl
                simp -dsimp only [Vm.E, List.lookup, Nat.reduceAdd, Nat.reduceBEq, Int.reduceBNe, Int.reduceBEq, Bool.true_beq, Bool.false_beq, Vm.S, Nat.reduceLeDiff, q10]
                refine call_one (S := tallSpec) rfl _ GaL.rfl ⟨V, f, year, rfl, hB3.1, by omega, fun l3 h4 hsc3 hln3 hV3 hs3 => ?_⟩
                have hB4 := hB3.quiet hV3 hs3
                simp -dsimp only [Vm.E, List.lookup, Nat.reduceAdd, Nat.reduceBEq, Int.reduceBNe, Int.reduceBEq, Bool.true_beq, Bool.false_beq, Vm.S, Nat.reduceLeDiff, q10]
                refine call_one (S := rtAllSpec) rfl _ GaL.rfl ⟨R, f, year, rfl, hB4.2.1, by omega, fun l4 hsc4 hln4 => ?_⟩
                obtain rfl := hsc3.same hsc4
                have hk3 : (allN year l3).length ≤ l3.length := n2 l3
                generalize allN year l3 = an at hk3 ⊢
                simp -dsimp only [Vm.E, List.lookup, Nat.reduceAdd, Nat.reduceBEq, Int.reduceBNe, Int.reduceBEq, Bool.true_beq, Bool.false_beq, Vm.S, Nat.reduceLeDiff, q10]
                refine call_one (S := eqSpecNd) rfl _ GaL.rfl ⟨an, an, by omega, rfl, fun b hb => ?_⟩
                obtain rfl : b = true := hb.2 rfl
                simp -dsimp only [Vm.E, List.lookup, Nat.reduceAdd, Nat.reduceBEq, Int.reduceBNe, Int.reduceBEq, Bool.true_beq, Bool.false_beq, Vm.S, Nat.reduceLeDiff, q10]
                refine call_one (S := givenSpec) rfl _ GaL.rfl ⟨l, hl, rfl, ?_⟩
                simp -dsimp only [Vm.E, List.lookup, Nat.reduceAdd, Nat.reduceBEq, Int.reduceBNe, Int.reduceBEq, Bool.true_beq, Bool.false_beq, Vm.S, Nat.reduceLeDiff, q10]
                refine call_one (S := givenSpec) rfl _ GaL.rfl ⟨l, hl, rfl, ?_⟩
                simp -dsimp only [Vm.E, List.lookup, Nat.reduceAdd, Nat.reduceBEq, Int.reduceBNe, Int.reduceBEq, Bool.true_beq, Bool.false_beq, Vm.S, Nat.reduceLeDiff, q10]
                refine call_one (S := trueSpec) rfl _ GaL.rfl ⟨rfl, fun hz => ?_⟩
                simp -dsimp only [Vm.E, List.lookup, Nat.reduceAdd, Nat.reduceBEq, Int.reduceBNe, Int.reduceBEq, Bool.true_beq, Bool.false_beq, Vm.S, Nat.reduceLeDiff, q10]
                exact hq _
              · simp only [ndCells, Nd.zero]
                simp -dsimp only [Vm.E, List.lookup, Nat.reduceAdd, Nat.reduceBEq, Int.reduceBNe, Int.reduceBEq, Bool.true_beq, Bool.false_beq, Vm.S, Nat.reduceLeDiff, q10]
                refine call_one (S := rtGetSpec) rfl _ GaL.rfl ⟨R, f, year, id, rfl, hB.2.1, by omega, fun n2 hno2 => (by rw [hno] at hno2; cases hno2), fun hno2 => ?_⟩
                simp only [ndCells, Nd.zero]
                simp -dsimp only [Vm.E, List.lookup, Nat.reduceAdd, Nat.reduceBEq, Int.reduceBNe, Int.reduceBEq, Bool.true_beq, Bool.false_beq, Vm.S, Nat.reduceLeDiff, q10]
                refine eq_agg fd25 rfl ?_
                simp -dsimp only [Vm.E, List.lookup, Nat.reduceAdd, Nat.reduceBEq, Int.reduceBNe, Int.reduceBEq, Bool.true_beq, Bool.false_beq, Vm.S, Nat.reduceLeDiff, q10, bool_eql]
                have n2 := List.length_filterMap_le (inYear year)
                refine call_one (S := tkidsSpec) rfl _ GaL.rfl ⟨V, f, year, id, rfl, hB.1, by omega, fun l1 h3 hsc hln hV1 hs1 => ?_⟩
                have hB3 := hB.quiet hV1 hs1
                simp -dsimp only [Vm.E, List.lookup, Nat.reduceAdd, Nat.reduceBEq, Int.reduceBNe, Int.reduceBEq, Bool.true_beq, Bool.false_beq, Vm.S, Nat.reduceLeDiff, q10]
                refine call_one (S := rtKidsSpec) rfl _ GaL.rfl ⟨R, f, year, id, rfl, hB3.2.1, by omega, fun l2 hsc2 hln2 => ?_⟩
                obtain rfl := hsc.same hsc2
                have hk1 : (kidsN year id l1).length ≤ l1.length := Nat.le_trans (List.length_filter_le ..) (n2 l1)
                simp -dsimp only [Vm.E, List.lookup, Nat.reduceAdd, Nat.reduceBEq, Int.reduceBNe, Int.reduceBEq, Bool.true_beq, Bool.false_beq, Vm.S, Nat.reduceLeDiff, q10]
                refine call_one (S := eqSpecNd) rfl _ GaL.rfl ⟨kidsN year id l1, kidsN year id l1, by omega, rfl, fun b hb => ?_⟩
                obtain rfl : b = true := hb.2 rfl
                simp -dsimp only [Vm.E, List.lookup, Nat.reduceAdd, Nat.reduceBEq, Int.reduceBNe, Int.reduceBEq, Bool.true_beq, Bool.false_beq, Vm.S, Nat.reduceLeDiff, q10]
                refine call_one (S := tpathSpec) rfl _ GaL.rfl ⟨V, f, year, id, rfl, hB3.1, ?_⟩
                simp -dsimp only [Vm.E, List.lookup, Nat.reduceAdd, Nat.reduceBEq, Int.reduceBNe, Int.reduceBEq, Bool.true_beq, Bool.false_beq, Vm.S, Nat.reduceLeDiff, q10]
                refine call_one (S := rtPathSpec) rfl _ GaL.rfl ⟨R, f, year, id, rfl, hB3.2.1, by omega, ?_⟩
                have hp8 := pathOf_length f year 8 id
                generalize pathOf f year 8 id = pth at hp8 ⊢
                simp -dsimp only [Vm.E, List.lookup, Nat.reduceAdd, Nat.reduceBEq, Int.reduceBNe, Int.reduceBEq, Bool.true_beq, Bool.false_beq, Vm.S, Nat.reduceLeDiff, q10]
                refine call_one (S := eqSpecNd) rfl _ GaL.rfl ⟨pth, pth, by omega, rfl, fun b hb => ?_⟩
                obtain rfl : b = true := hb.2 rfl
                simp -dsimp only [Vm.E, List.lookup, Nat.reduceAdd, Nat.reduceBEq, Int.reduceBNe, Int.reduceBEq, Bool.true_beq, Bool.false_beq, Vm.S, Nat.reduceLeDiff, q10]
                refine call_one (S := tallSpec) rfl _ GaL.rfl ⟨V, f, year, rfl, hB3.1, by omega, fun l3 h4 hsc3 hln3 hV3 hs3 => ?_⟩
                have hB4 := hB3.quiet hV3 hs3
                simp -dsimp only [Vm.E, List.lookup, Nat.reduceAdd, Nat.reduceBEq, Int.reduceBNe, Int.reduceBEq, Bool.true_beq, Bool.false_beq, Vm.S, Nat.reduceLeDiff, q10]
                refine call_one (S := rtAllSpec) rfl _ GaL.rfl ⟨R, f, year, rfl, hB4.2.1, by omega, fun l4 hsc4 hln4 => ?_⟩
                obtain rfl := hsc3.same hsc4
                have hk3 : (allN year l3).length ≤ l3.length := n2 l3
                generalize allN year l3 = an at hk3 ⊢
                simp -dsimp only [Vm.E, List.lookup, Nat.reduceAdd, Nat.reduceBEq, Int.reduceBNe, Int.reduceBEq, Bool.true_beq, Bool.false_beq, Vm.S, Nat.reduceLeDiff, q10]
                refine call_one (S := eqSpecNd) rfl _ GaL.rfl ⟨an, an, by omega, rfl, fun b hb => ?_⟩
                obtain rfl : b = true := hb.2 rfl
                simp -dsimp only [Vm.E, List.lookup, Nat.reduceAdd, Nat.reduceBEq, Int.reduceBNe, Int.reduceBEq, Bool.true_beq, Bool.false_beq, Vm.S, Nat.reduceLeDiff, q10]
                refine call_one (S := givenSpec) rfl _ GaL.rfl ⟨l, hl, rfl, ?_⟩
                simp -dsimp only [Vm.E, List.lookup, Nat.reduceAdd, Nat.reduceBEq, Int.reduceBNe, Int.reduceBEq, Bool.true_beq, Bool.false_beq, Vm.S, Nat.reduceLeDiff, q10]
                refine call_one (S := givenSpec) rfl _ GaL.rfl ⟨l, hl, rfl, ?_⟩
                simp -dsimp only [Vm.E, List.lookup, Nat.reduceAdd, Nat.reduceBEq, Int.reduceBNe, Int.reduceBEq, Bool.true_beq, Bool.false_beq, Vm.S, Nat.reduceLeDiff, q10]
                refine call_one (S := trueSpec) rfl _ GaL.rfl ⟨rfl, fun hz => ?_⟩
                simp -dsimp only [Vm.E, List.lookup, Nat.reduceAdd, Nat.reduceBEq, Int.reduceBNe, Int.reduceBEq, Bool.true_beq, Bool.false_beq, Vm.S, Nat.reduceLeDiff, q10]
                exact hq _
    · simp -dsimp only [Vm.E, List.lookup, Nat.reduceAdd, Nat.reduceBEq, Int.reduceBNe, Int.reduceBEq, Bool.true_beq, Bool.false_beq, Vm.S, Nat.reduceLeDiff, q10]
      refine call_one (S := trueSpec) rfl _ GaL.rfl ⟨rfl, fun hz => ?_⟩
      simp -dsimp only [Vm.E, List.lookup, Nat.reduceAdd, Nat.reduceBEq, Int.reduceBNe, Int.reduceBEq, Bool.true_beq, Bool.false_beq, Vm.S, Nat.reduceLeDiff, q10]
      exact hq _
theorem tells_args {y0 y1 y2 y3 : AV} (i0 : IsA (.sl (.agg [.sl (.int .u8), .sl (.int .u8)])) y0) (i1 : IsA (.sl (.agg [.int .i64, .int .i64, .int .i64, .int .i64, .int .i64, .bool, .int .i64, .int .i64, .int .i64, .int .i64, .int .i64, .int .i64])) y1) (i2 : IsA (.int .i64) y2) (i3 : IsA (.int .i64) y3) {Q : AV → Heap → Prop} (hq : ∀ h', Q (.v (.bool true)) h') : tellsSpec [y0, y1, y2, y3] [] Q := by
  obtain ⟨f, hf, rfl, -⟩ := isA_list _ kvAv (fun y hy => isA_kv hy) i0
  obtain ⟨l, hl, rfl, hok⟩ := isA_list _ ndAv (fun y hy => isA_nd hy) i1
  obtain ⟨a, -, rfl⟩ := isA_int i2
  obtain ⟨b, -, rfl⟩ := isA_int i3
  exact ⟨f, l, a, b, hf, hl, hok, rfl, hq⟩
end Go.Proofs.Lx
