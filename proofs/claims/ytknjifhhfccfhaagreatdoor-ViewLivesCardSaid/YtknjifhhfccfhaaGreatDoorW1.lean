/- What the functions of the program do: their contracts. -/
import Derived.Test.YtknjifhhfccfhaaGreatDoorV2
import Derived.Test.YtknjifhhfccfhaaGreatDoorTFs
import Derived.Test.YtknjifhhfccfhaaGreatDoorW0
import Derived.Test.YtknjifhhfccfhaaGreatDoorShelfSs
import Derived.Test.YtknjifhhfccfhaaGreatDoorShelfLn
/- The reference's view. -/
set_option linter.unusedSimpArgs false
set_option linter.unusedVariables false
namespace Go.Proofs.Lx
open Go.Vm
attribute [local irreducible] awpArr awpBin awpMake awpAppend awpCvX awpStrOf awpBinX awpSlice awpBS awpStore awpAlloc awpCopy awpIndex awpDraw awpIdxX awpFa awpField awpLookup awpUpdate awpDelete awpClear awpRange awpNext awpEntry awpBuild awpClearS awpIdxL
def GaO (x y : AObj) : Prop := x = y ∨ ∃ a b, x = .cells a ∧ y = .cells b ∧ GaL a b
def GaH (h h' : Heap) : Prop := h.length = h'.length ∧ ∀ (i : Nat) (o' : AObj), h'[i]? = some o' → ∃ o : AObj, h[i]? = some o ∧ GaO o o'
theorem GaH.rep {w : World} {g : Gh} {h h' : Heap} (hg : GaH h h') (hh : HeapRep w g h) : HeapRep w g h' := by
  refine ⟨hg.1 ▸ hh.n, hh.lt, hh.inj, fun i o' ho' => ?_⟩
  obtain ⟨o, ho, hgo⟩ := hg.2 i o' ho'
  have hr := hh.obj i o ho
  rcases hgo with rfl | ⟨a, b, rfl, rfl, hab⟩
  · exact hr
  · obtain ⟨vs, e, h1, h2, h3, h4, h5⟩ := hr
    obtain ⟨q1, q2⟩ := gaL_rep (w := w) (g := g) hab
    exact ⟨vs, e, h1, q1 ▸ h2, h3, fun j hj => h4 j (by omega), q2 (fun j => vs.getD j undef) h5⟩
def WeakH (S : Vm.Spec) : Vm.Spec := fun args h Q => ∃ h', GaH h h' ∧ S args h' fun r h2 => ∃ h3, GaH h2 h3 ∧ Q r h3
theorem does_weakH {P : Program} {f : FuncId} {S : Vm.Spec} (hd : Does P f S) : Does P f (WeakH S) := by
  refine ⟨hd.1, fun args h Q ⟨h', hg, hS⟩ w g vs hvs hrep hh hf hlaid => (hd.2 args h' _ hS w g vs hvs hrep (hg.rep hh) hf hlaid).mono ?_⟩
  rintro e w' ⟨r, h2, g', v, ⟨h3, hg3, hq⟩, he, hres, hhr, hrest⟩
  exact ⟨r, h3, g', v, hq, he, hres, hg3.rep hhr, hrest⟩
theorem GaH.refl (h : Heap) : GaH h h := ⟨rfl, fun i o ho => ⟨o, ho, .inl rfl⟩⟩
theorem GaH.append {h : Heap} {a b : List AObj} (hab : a.length = b.length) (hi : ∀ (i : Nat) (o' : AObj), b[i]? = some o' → ∃ o, a[i]? = some o ∧ GaO o o') : GaH (h ++ a) (h ++ b) := by
  refine ⟨by simp [hab], fun i o' ho' => ?_⟩
  rcases Nat.lt_or_ge i h.length with hl | hl
  · rw [List.getElem?_append_left hl] at ho' ⊢
    exact ⟨o', ho', .inl rfl⟩
  · rw [List.getElem?_append_right hl] at ho' ⊢
    exact hi _ _ ho'
structure RId where
  iv : Nat
  iw : Nat
  inn : Nat
  it : Nat
/-- A view of the reference: what each key has. -/
def isRef (h : Heap) (R : RId) (f : Fun) : Prop :=
  ∃ lw ln lt : List KV, h[R.iv]? = some (.cells [.ptr R.iw 0, .ptr R.inn 0, .ptr R.it 0]) ∧ h[R.iw]? = some (tabObj lw) ∧ h[R.inn]? = some (tabObj ln) ∧ h[R.it]? = some (tabObj lt) ∧
    (R.iv ≠ R.inn ∧ R.iv ≠ R.it ∧ R.inn ≠ R.it ∧ R.iw ≠ R.inn ∧ R.iw ≠ R.it) ∧ TabIs f ln ∧ (ln.length ≤ f.n ∧ lt.length ≤ f.n) ∧ ∀ p ∈ ln, p.1.length ≤ 32 ∧ p.2.length ≤ 120
def rFoot (R : RId) : List Nat := [R.inn, R.it]
theorem isRef.len {h : Heap} {R : RId} {f : Fun} (hR : isRef h R f) {k l : List UInt8} (hf : f k = some l) : k.length ≤ 32 ∧ l.length ≤ 120 := by
  obtain ⟨lw, ln, lt, -, -, -, -, -, h6, -, h8⟩ := hR
  exact h8 (k, l) ((h6.2 k l).2 hf)
def rNewH (h : Heap) : Heap := h ++ [tabObj [], tabObj [], tabObj [], .cells [.ptr h.length 0, .ptr (h.length + 1) 0, .ptr (h.length + 2) 0]]
def rNewId (h : Heap) : RId := ⟨h.length + 3, h.length, h.length + 1, h.length + 2⟩
def rNewSpec : Vm.Spec := fun args h Q => args = [.sl 2 []] ∧ Q (.ptr (rNewId h).iv 0) (rNewH h)
theorem does_rNew0 : Does Tryz.prog 16 (fun args h Q => args = [.sl 2 []] ∧ Q (.ptr (h.length + 3) 0) (h ++ [tabObj [], tabObj [], .cells [.v (.slice none 0 0)], .cells [.ptr h.length 0, .ptr (h.length + 1) 0, .ptr (h.length + 2) 0]])) := by
  refine does_of_awp good_nil Tryz.func16 rfl (by decide +kernel) (by decide +kernel) ?_
  rintro args h Q ⟨rfl, hq⟩
  refine ⟨by simp [Tryz.f16], ?_⟩
  rw [awpFunc_some (by rfl)]
  unfold tabObj at hq
  simp -dsimp only [Vm.G, List.lookup, Nat.reduceAdd, Nat.reduceBEq, Int.reduceBNe, Int.reduceBEq, Nat.reduceLeDiff, bd78, bd80, Tryz.results16]
  simpa using hq
theorem does_rNew : Does Tryz.prog 16 rNewSpec := by
  refine (does_weakH does_rNew0).imp ?_
  rintro args h Q ⟨rfl, hq⟩
  refine ⟨h, .refl h, rfl, rNewH h, ?_, hq⟩
  refine GaH.append rfl fun i o' ho' => ?_
  match i, ho' with
  | 0, ho' => exact ⟨o', ho', .inl rfl⟩
  | 1, ho' => exact ⟨o', ho', .inl rfl⟩
  | 2, ho' => exact ⟨_, rfl, .inr ⟨_, _, rfl, (Option.some.inj ho').symm, .cons (.nil 2) .nil⟩⟩
  | 3, ho' => exact ⟨o', ho', .inl rfl⟩
  | i + 4, ho' => simp at ho'
theorem isRef_new (h : Heap) : isRef (rNewH h) (rNewId h) noF := by
  unfold rNewH rNewId
  refine ⟨[], [], [], ?_, ?_, ?_, ?_, ⟨by simp, by simp, by simp, by simp, by simp⟩, TabIs.new, ⟨by simp, by simp⟩, by simp⟩
  · rw [List.getElem?_append_right (by simp)]; simp
  · rw [List.getElem?_append_right (by simp)]; simp
  · rw [List.getElem?_append_right (by simp)]; simp
  · rw [List.getElem?_append_right (by simp)]; simp
def rGetSpec : Vm.Spec := fun args h Q => ∃ (R : RId) (f : Fun) (k : List UInt8), args = [.ptr R.iv 0, .sl 1 (k.map encB)] ∧ isRef h R f ∧ f.n ≤ 536870912 ∧
  (∀ l, f k = some l → Q (.tup [.sl 1 (l.map encB), .v (.bool true)]) h) ∧ (f k = none → Q (.tup [.sl 1 [], .v (.bool false)]) h)
theorem does_rGet : Does Tryz.prog 40 rGetSpec := by
  refine Does.imp (S := Weak fun args h Q => ∃ (R : RId) (f : Fun) (k : List UInt8), args = [.ptr R.iv 0, .sl 1 (k.map encB)] ∧ isRef h R f ∧ f.n ≤ 536870912 ∧
    (∀ l, f k = some l → Q (.tup [.sl 1 (l.map encB), .v (.bool true)]) h) ∧ (f k = none → Q (.tup [.v (.slice none 0 0), .v (.bool false)]) h)) (Does.weak ?_) ?_
  · refine does_of_awp (good_cons does_tGet good_nil) Tryz.func40 rfl (by decide +kernel) (by decide +kernel) ?_
    rintro args h Q ⟨R, f, k, rfl, hR, hn, hq1, hq2⟩
    refine ⟨by simp [Tryz.f40], ?_⟩
    rw [awpFunc_some (by rfl)]
    obtain ⟨lw, ln, lt, h1, h2, h3, h4, h5, h6, h7, h8⟩ := hR
    simp -dsimp only [Vm.G, List.lookup, Nat.reduceAdd, Nat.reduceBEq, Int.reduceBNe, Int.reduceBEq, Nat.reduceLeDiff, fo80_1, h1, of76]
    refine call_one (S := tGetSpec) rfl _ GaL.rfl ⟨R.inn, ln, k, rfl, h3, by omega, fun p hp => by have := (h8 p hp).2; omega, fun v hv => ?_, fun hv => ?_⟩
    · rw [h6.find] at hv
      simp -dsimp only [Vm.E, List.lookup, Nat.reduceAdd, Nat.reduceBEq, Int.reduceBNe, Int.reduceBEq, Bool.true_beq, Bool.false_beq, Tryz.results40]
      exact hq1 v hv
    · rw [h6.find] at hv
      simp -dsimp only [Vm.E, List.lookup, Nat.reduceAdd, Nat.reduceBEq, Int.reduceBNe, Int.reduceBEq, Bool.true_beq, Bool.false_beq, Tryz.results40]
      exact hq2 hv
  · rintro args h Q ⟨R, f, k, rfl, hR, hn, hq1, hq2⟩
    exact ⟨R, f, k, rfl, hR, hn, fun l hf => ⟨_, .refl _, hq1 l hf⟩, fun hf => ⟨_, .tup (.cons (.nil 1) GaL.rfl), hq2 hf⟩⟩
end Go.Proofs.Lx
/- The reference's numbers and years. -/
set_option linter.unusedSimpArgs false
set_option linter.unusedVariables false
namespace Go.Proofs.Lx
open Go.Vm
attribute [local irreducible] awpArr awpBin awpMake awpAppend awpCvX awpStrOf awpBinX awpSlice awpBS awpStore awpAlloc awpCopy awpIndex awpDraw awpIdxX awpFa awpField awpLookup awpUpdate awpDelete awpClear awpRange awpNext awpEntry awpBuild awpClearS awpIdxL
end Go.Proofs.Lx
/- The reference's pairs that begin so; two views beside. -/
set_option linter.unusedSimpArgs false
set_option linter.unusedVariables false
namespace Go.Proofs.Lx
open Go.Vm
attribute [local irreducible] awpArr awpBin awpMake awpAppend awpCvX awpStrOf awpBinX awpSlice awpBS awpStore awpAlloc awpCopy awpIndex awpDraw awpIdxX awpFa awpField awpLookup awpUpdate awpDelete awpClear awpRange awpNext awpEntry awpBuild awpClearS awpIdxL awpTree appB
abbrev preL (pre : List UInt8) (l : List KV) : List KV := l.filter fun p => pre.isPrefixOf p.1
def tScanSpec : Vm.Spec := fun args h Q => ∃ (i : Nat) (l : List KV) (pre : List UInt8), args = [.ptr i 0, .sl 1 (pre.map encB)] ∧ h[i]? = some (tabObj l) ∧ l.length ≤ 1073741824 ∧ pre.length ≤ 1073741824 ∧ (∀ p ∈ l, p.1.length ≤ 32) ∧
  Q (.own true 68 2 ((preL pre l).map kvAv)) h
set_option maxRecDepth 20000 in
set_option maxHeartbeats 4000000 in
theorem does_tScan : Does Tryz.prog 73 tScanSpec := by
  refine does_of_awp good_nil Tryz.func73 rfl (by decide +kernel) (by decide +kernel) ?_
  rintro args h Q ⟨id, l, pre, rfl, hh, hl, hpl, hk32, hq⟩
  unfold tabObj at hh
  refine ⟨by simp [Tryz.f73], ?_⟩
  rw [awpFunc_some (by rfl)]
  simp -dsimp only [Vm.E, List.lookup, Nat.reduceAdd, Nat.reduceBEq, Int.reduceBNe, Int.reduceBEq, Bool.true_beq, Bool.false_beq]
  refine awp_loop (fun m s h' => ∃ i : Nat, i + m = l.length ∧ h' = h ∧ s = mk [(0, .ptr id 0), (1, .sl 1 (pre.map encB)), (5, .own true 68 2 ((preL pre (l.take i)).map kvAv)), (6, .v (.int .i64 i))])
    l.length _ (le_mk _ ?_) ⟨0, by omega, rfl, rfl⟩ ?_
  · simp only [List.forall_mem_cons, List.not_mem_nil, false_imp_iff, implies_true, and_true]
    simp -dsimp only [Vm.E, List.lookup, Nat.reduceAdd, Nat.reduceBEq, Int.reduceBNe, Int.reduceBEq, Bool.true_beq, Bool.false_beq]
    exact ⟨.refl _, .refl _, .nil _ _ _ (by decide), .refl _⟩
  · rintro m s h' ⟨i, hi, rfl, rfl⟩
    simp -dsimp only [Vm.E, List.lookup, Nat.reduceAdd, Nat.reduceBEq, Int.reduceBNe, Int.reduceBEq, Bool.true_beq, Bool.false_beq, fo78_0, hh, of33, Tryz.underlying33]
    refine cond_intro (fun hcc => ?_) (fun hcc => ?_)
    · have hlt : i < l.length := by have := of_decide_eq_true hcc; omega
      have hw : IntKind.i64.wrap ((i : Int) + 1) = ((i + 1 : Nat) : Int) := by rw [wrap_i64 (by omega) (by omega)]; simp
      obtain ⟨p, hp⟩ : ∃ p, l[i] = p := ⟨_, rfl⟩
      have hkp := hk32 p (hp ▸ List.getElem_mem hlt)
      have hpre : (preL pre (l.take i)).length ≤ i := Nat.le_trans (List.length_filter_le ..) (by rw [List.length_take]; omega)
      have est : preL pre (l.take (i + 1)) = preL pre (l.take i) ++ if pre.isPrefixOf p.1 then [p] else [] := by
        rw [List.take_succ_eq_append_getElem hlt, preL, List.filter_append, hp, List.filter_cons, List.filter_nil]
      simp -dsimp only [Vm.E, List.lookup, Nat.reduceAdd, Nat.reduceBEq, Int.reduceBNe, Int.reduceBEq, Bool.true_beq, Bool.false_beq, fo78_0, hh, of33, es33, as33]
      refine idx_map kvAv l i hlt ?_
      simp only [hp, kvAv]
      simp -dsimp only [Vm.G, List.lookup, Nat.reduceAdd, Nat.reduceBEq, Int.reduceBNe, Int.reduceBEq, Nat.reduceLeDiff, AV.cells, fo68_0, of22]
      have e1 : (p.1.map encB).take (pre.length : Int).toNat = (p.1.take pre.length).map encB := by rw [Int.toNat_natCast, List.map_take]
      refine draw_cont [] (.take 0 (.take 1 (.take 2 (.take 3 (.take 4 (.take 5 (.take 6 (.take 7 (.take 8 (.take 9 (.take 11 (.alt 10 (.alt 12 (.take 13 (.take 14 (.done))) .stop) (.alt 12 (.alt 10 (.take 13 (.take 14 (.done))) .stop) (.stop)))))))))))))) (fun s hx => hx = h' ∧ s 39 = .v (.bool (pre.isPrefixOf p.1)) ∧ s 0 = .ptr id 0 ∧ s 1 = .sl 1 (pre.map encB) ∧ s 5 = .own true 68 2 ((preL pre (l.take i)).map kvAv) ∧ s 6 = .v (.int .i64 i)) (by kernel_rfl) (by kernel_rfl) (by kernel_rfl) (by decide) ?_ ?_
      · by_cases hle : pre.length ≤ p.1.length
        · have c1 : decide ((p.1.length : Int) ≥ pre.length) = true := decide_eq_true (by omega)
          simp only [← isPrefixOf_take p.1 pre hle]
          repeat' first
            | with_reducible exact True.intro
            | simp -dsimp only [Vm.E, List.lookup, Nat.reduceAdd, Nat.reduceBEq, Int.reduceBNe, Int.reduceBEq, Bool.true_beq, Bool.false_beq, c1, e1, Tryz.underlying22, cs22, str_eql, toList_mk]
            | refine strOf_sl bt22 pre rfl ?_
            | refine strOf_sl bt22 (p.1.take pre.length) rfl ?_
            | refine slice_h es22 (by omega) (by rw [List.length_map]; omega) ?_
            | refine tree_alt ?_ ?_
        · have c1 : decide ((p.1.length : Int) ≥ pre.length) = false := decide_eq_false (by omega)
          simp only [isPrefixOf_long p.1 pre hle]
          repeat' first
            | with_reducible exact True.intro
            | simp -dsimp only [Vm.E, List.lookup, Nat.reduceAdd, Nat.reduceBEq, Int.reduceBNe, Int.reduceBEq, Bool.true_beq, Bool.false_beq, c1, Tryz.underlying22]
            | refine tree_alt ?_ ?_
      · rintro s hx ⟨rfl, e39, e0, e1, e5, e6⟩
        cases hb : pre.isPrefixOf p.1
        · rw [hb] at e39 est
          simp only [Bool.false_eq_true, if_false, List.append_nil] at est
          simp -dsimp only [Vm.E, List.lookup, Nat.reduceAdd, Nat.reduceBEq, Int.reduceBNe, Int.reduceBEq, Bool.true_beq, Bool.false_beq, e39, e0, e1, e5, e6]
          refine kept_intro ⟨l.length - (i + 1), by omega, _, le_mk [(0, .ptr id 0), (1, .sl 1 (pre.map encB)), (5, .own true 68 2 ((preL pre (l.take (i + 1))).map kvAv)), (6, .v (.int .i64 (i + 1 : Nat)))] ?_, i + 1, by omega, rfl, rfl⟩
          simp only [List.forall_mem_cons, List.not_mem_nil, false_imp_iff, implies_true, and_true, est]
          simp -dsimp only [Vm.E, List.lookup, Nat.reduceAdd, Nat.reduceBEq, Int.reduceBNe, Int.reduceBEq, Bool.true_beq, Bool.false_beq, e39, e0, e1, e5, e6, hw]
          exact ⟨.refl _, .refl _, .refl _, .refl _⟩
        · rw [hb] at e39 est
          simp only [if_true] at est
          simp -dsimp only [Vm.E, List.lookup, Nat.reduceAdd, Nat.reduceBEq, Int.reduceBNe, Int.reduceBEq, Bool.true_beq, Bool.false_beq, e39, e0, e1, e5, e6, fo78_0, hh, of33, es33, as33]
          refine idx_map kvAv l i hlt ?_
          simp only [hp, kvAv]
          simp -dsimp only [Vm.E, List.lookup, Nat.reduceAdd, Nat.reduceBEq, Int.reduceBNe, Int.reduceBEq, Bool.true_beq, Bool.false_beq, e39, e0, e1, e5, e6, Vm.S, Nat.reduceLeDiff, AV.cells, of68, es33]
          refine bs_intro zr68 (by decide) (by decide) rfl rfl (by simp [solid, AV.cells]) ?_
          simp -dsimp only [Vm.E, List.lookup, Nat.reduceAdd, Nat.reduceBEq, Int.reduceBNe, Int.reduceBEq, Bool.true_beq, Bool.false_beq, e39, e0, e1, e5, e6, append_own ei33]
          refine app_sl Tryz.underlying33 (by simp [AV.cells]) (by simp only [List.length_map, List.length_cons, List.length_nil]; omega) ?_
          simp -dsimp only [Vm.E, List.lookup, Nat.reduceAdd, Nat.reduceBEq, Int.reduceBNe, Int.reduceBEq, Bool.true_beq, Bool.false_beq, e39, e0, e1, e5, e6]
          refine kept_intro ⟨l.length - (i + 1), by omega, _, le_mk [(0, .ptr id 0), (1, .sl 1 (pre.map encB)), (5, .own true 68 2 ((preL pre (l.take (i + 1))).map kvAv)), (6, .v (.int .i64 (i + 1 : Nat)))] ?_, i + 1, by omega, rfl, rfl⟩
          simp only [List.forall_mem_cons, List.not_mem_nil, false_imp_iff, implies_true, and_true, est, List.map_append, List.map_cons, List.map_nil, kvAv]
          simp -dsimp only [Vm.E, List.lookup, Nat.reduceAdd, Nat.reduceBEq, Int.reduceBNe, Int.reduceBEq, Bool.true_beq, Bool.false_beq, e39, e0, e1, e5, e6, hw]
          exact ⟨.refl _, .refl _, .refl _, .refl _⟩
    · have hge : ¬ i < l.length := by have := of_decide_eq_false hcc; omega
      simp -dsimp only [Vm.E, List.lookup, Nat.reduceAdd, Nat.reduceBEq, Int.reduceBNe, Int.reduceBEq, Bool.true_beq, Bool.false_beq, Tryz.results73]
      rw [List.take_of_length_le (by omega)]
      exact hq
def rScanSpec : Vm.Spec := fun args h Q => ∃ (R : RId) (f : Fun) (pre : List UInt8), args = [.ptr R.iv 0, .sl 1 (pre.map encB)] ∧ pre.length ≤ 1073741824 ∧ isRef h R f ∧ f.n ≤ 536870912 ∧
  ∀ l, ScanIs f pre l → l.length ≤ f.n → Q (.own true 68 2 (l.map kvAv)) h
theorem does_rScan : Does Tryz.prog 42 rScanSpec := by
  refine does_of_awp (good_cons does_tScan good_nil) Tryz.func42 rfl (by decide +kernel) (by decide +kernel) ?_
  rintro args h Q ⟨R, f, pre, rfl, hpl, hR, hn, hq⟩
  refine ⟨by simp [Tryz.f42], ?_⟩
  rw [awpFunc_some (by rfl)]
  obtain ⟨lw, ln, lt, h1, h2, h3, h4, h5, h6, h7, h8⟩ := hR
  simp -dsimp only [Vm.G, List.lookup, Nat.reduceAdd, Nat.reduceBEq, Int.reduceBNe, Int.reduceBEq, Nat.reduceLeDiff, fo80_1, h1, of76]
  refine call_one (S := tScanSpec) rfl _ GaL.rfl ⟨R.inn, ln, pre, rfl, h3, by omega, hpl, fun p hp => (h8 p hp).1, ?_⟩
  simp -dsimp only [Vm.E, List.lookup, Nat.reduceAdd, Nat.reduceBEq, Int.reduceBNe, Int.reduceBEq, Bool.true_beq, Bool.false_beq, Tryz.results42]
  exact hq _ (h6.scan pre) (Nat.le_trans (List.length_filter_le ..) h7.1)
def Both (h : Heap) (V : VId) (R : RId) (f : Fun) : Prop := isView h V f ∧ isRef h R f ∧ (∀ i ∈ [V.iv, V.ic, V.im], i ∉ [R.iv, R.iw, R.inn, R.it])
theorem get_lt {h : Heap} {i : Nat} {o : AObj} (hx : h[i]? = some o) : i < h.length := by
  rcases Nat.lt_or_ge i h.length with h' | h'
  · exact h'
  · rw [List.getElem?_eq_none h'] at hx; cases hx
theorem Same.get {h h' : Heap} {fp : List Nat} (hs : Same h h' fp) {i : Nat} {o : AObj} (hx : h[i]? = some o) (hi : i ∉ fp) : h'[i]? = some o := by rw [hs.2 i (get_lt hx) hi]; exact hx
theorem isView.same {h h' : Heap} {V : VId} {f : Fun} {fp : List Nat} (hV : isView h V f) (hs : Same h h' fp) (hd : ∀ i ∈ [V.iv, V.ic, V.im], i ∉ fp) : isView h' V f := by
  obtain ⟨chg, clk, mem, clk2, h1, h2, h3, h4⟩ := hV
  exact ⟨chg, clk, mem, clk2, hs.get h1 (hd _ (by simp)), hs.get h2 (hd _ (by simp)), hs.get h3 (hd _ (by simp)), h4⟩
theorem isRef.same {h h' : Heap} {R : RId} {f : Fun} {fp : List Nat} (hR : isRef h R f) (hs : Same h h' fp) (hd : ∀ i ∈ [R.iv, R.iw, R.inn, R.it], i ∉ fp) : isRef h' R f := by
  obtain ⟨lw, ln, lt, h1, h2, h3, h4, h5⟩ := hR
  exact ⟨lw, ln, lt, hs.get h1 (hd _ (by simp)), hs.get h2 (hd _ (by simp)), hs.get h3 (hd _ (by simp)), hs.get h4 (hd _ (by simp)), h5⟩
theorem Both.view {h h' : Heap} {V : VId} {R : RId} {f g : Fun} (hB : Both h V R f) (hV : isView h' V g) (hs : Same h h' [V.ic]) : isRef h' R f := by
  refine hB.2.1.same hs fun i hi hm => ?_
  rw [List.mem_singleton] at hm; subst hm
  exact hB.2.2 V.ic (by simp) hi
theorem Both.ref {h h' h2 : Heap} {V : VId} {R : RId} {f g : Fun} (hB : Both h V R f) (hV : isView h' V g) (hR : isRef h2 R g) (hs : Same h' h2 (rFoot R)) : Both h2 V R g := by
  refine ⟨hV.same hs fun i hi hm => ?_, hR, hB.2.2⟩
  refine hB.2.2 i hi ?_
  simp [rFoot] at hm ⊢
  rcases hm with rfl | rfl <;> simp
theorem Both.quiet {h h' : Heap} {V : VId} {R : RId} {f : Fun} (hB : Both h V R f) (hV : isView h' V f) (hs : Same h h' []) : Both h' V R f :=
  ⟨hV, hB.2.1.same hs (by simp), hB.2.2⟩
end Go.Proofs.Lx
/- exchequerplain: few pairs, the same pairs. -/
set_option linter.unusedSimpArgs false
set_option linter.unusedVariables false
namespace Go.Proofs.Lx
open Go.Vm
attribute [local irreducible] awpArr awpBin awpMake awpAppend awpCvX awpStrOf awpBinX awpSlice awpBS awpStore awpAlloc awpCopy awpIndex awpDraw awpIdxX awpFa awpField awpLookup awpUpdate awpDelete awpClear awpRange awpNext awpEntry awpBuild awpClearS awpIdxL
def eqKVSpec : Vm.Spec := fun args h Q => ∃ x y : KV, args = [kvAv x, kvAv y] ∧ Q (.v (.bool (x.1 == y.1 && x.2 == y.2))) h
theorem does_eqKV : Does Tryz.prog 72 eqKVSpec := by
  refine does_of_awp (good_cons does_equal good_nil) Tryz.func72 rfl (by decide +kernel) (by decide +kernel) ?_
  rintro args h Q ⟨⟨k, v⟩, ⟨k2, v2⟩, rfl, hq⟩
  refine ⟨by simp [Tryz.f72], ?_⟩
  rw [awpFunc_some (by rfl)]
  simp only [kvAv]
  simp -dsimp only [Vm.G, List.lookup, Nat.reduceAdd, Nat.reduceBEq, Int.reduceBNe, Int.reduceBEq, Nat.reduceLeDiff, fo68_0, of22]
  refine call_one (S := equalSpec) rfl _ GaL.rfl ⟨k, k2, rfl, ?_⟩
  simp -dsimp only [Vm.E, List.lookup, Nat.reduceAdd, Nat.reduceBEq, Int.reduceBNe, Int.reduceBEq, Bool.true_beq, Bool.false_beq]
  cases c1 : (k == k2)
  · simp only [c1] at hq
    simp -dsimp only [Vm.G, List.lookup, Nat.reduceAdd, Nat.reduceBEq, Int.reduceBNe, Int.reduceBEq, Nat.reduceLeDiff, Tryz.results72]
    exact hq
  · simp only [c1] at hq
    simp -dsimp only [Vm.G, List.lookup, Nat.reduceAdd, Nat.reduceBEq, Int.reduceBNe, Int.reduceBEq, Nat.reduceLeDiff, fo68_1, of22]
    refine call_one (S := equalSpec) rfl _ GaL.rfl ⟨v, v2, rfl, ?_⟩
    simp -dsimp only [Vm.E, List.lookup, Nat.reduceAdd, Nat.reduceBEq, Int.reduceBNe, Int.reduceBEq, Bool.true_beq, Bool.false_beq, Tryz.results72]
    exact hq
def eqFSpec : Vm.Spec := fun args h Q => ∃ l l' : List KV, l.length ≤ 9223372036854775807 ∧ args = [.sl 2 (l.map kvAv), .sl 2 (l'.map kvAv), .clo 72 []] ∧ Q (.v (.bool (decide (l = l')))) h
set_option maxHeartbeats 1000000 in
theorem does_eqF : Does Tryz.prog 71 eqFSpec := by
  refine does_of_awp (good_cons does_eqKV good_nil) Tryz.func71 rfl (by decide +kernel) (by decide +kernel) ?_
  rintro args h Q ⟨l, l', hl, rfl, hq⟩
  refine ⟨by simp [Tryz.f71], ?_⟩
  rw [awpFunc_some (by rfl)]
  simp -dsimp only [Vm.E, List.lookup, Nat.reduceAdd, Nat.reduceBEq, Int.reduceBNe, Int.reduceBEq, Bool.true_beq, Bool.false_beq, Tryz.underlying33]
  by_cases hlen : l.length = l'.length
  · have c1 : ((l.length : Int) != l'.length) = false := by simp [hlen]
    simp -dsimp only [Vm.E, List.lookup, Nat.reduceAdd, Nat.reduceBEq, Int.reduceBNe, Int.reduceBEq, Bool.true_beq, Bool.false_beq, c1, Tryz.underlying33]
    refine awp_loop (fun m s h' => ∃ i : Nat, i + m = l.length ∧ h' = h ∧ (∀ j (hj : j < l.length), j < i → l[j] = l'[j]'(by omega)) ∧ s = mk [(1, .sl 2 (l'.map kvAv)), (2, .clo 72 []), (15, .sl 2 (l.map kvAv)), (16, .v (.int .i64 l.length)), (17, .v (.int .i64 i))])
      l.length _ (le_mk _ ?_) ⟨0, by omega, rfl, fun j _ hj => by omega, rfl⟩ ?_
    · simp only [List.forall_mem_cons, List.not_mem_nil, false_imp_iff, implies_true, and_true]
      simp -dsimp only [Vm.E, List.lookup, Nat.reduceAdd, Nat.reduceBEq, Int.reduceBNe, Int.reduceBEq, Bool.true_beq, Bool.false_beq]
      exact ⟨.refl _, .refl _, .refl _, .refl _, .refl _⟩
    · rintro m s h' ⟨i, hi, rfl, hb, rfl⟩
      simp -dsimp only [Vm.E, List.lookup, Nat.reduceAdd, Nat.reduceBEq, Int.reduceBNe, Int.reduceBEq, Bool.true_beq, Bool.false_beq]
      refine cond_intro (fun hcc => ?_) (fun hcc => ?_)
      · have hlt : i < l.length := by have := of_decide_eq_true hcc; omega
        have hlt' : i < l'.length := by omega
        obtain ⟨x, hx⟩ : ∃ x, l[i] = x := ⟨_, rfl⟩
        obtain ⟨y, hy⟩ : ∃ y, l'[i] = y := ⟨_, rfl⟩
        have hw : IntKind.i64.wrap ((i : Int) + 1) = ((i + 1 : Nat) : Int) := by rw [wrap_i64 (by omega) (by omega)]; simp
        simp -dsimp only [Vm.E, List.lookup, Nat.reduceAdd, Nat.reduceBEq, Int.reduceBNe, Int.reduceBEq, Bool.true_beq, Bool.false_beq, es33, as33]
        refine idx_map kvAv l i hlt ?_
        simp only [hx, kvAv]
        simp -dsimp only [Vm.G, List.lookup, Nat.reduceAdd, Nat.reduceBEq, Int.reduceBNe, Int.reduceBEq, Nat.reduceLeDiff, AV.cells, of68, al68, sz68, es33, as33]
        refine idx_map kvAv l' i hlt' ?_
        simp only [hy, kvAv]
        simp -dsimp only [Vm.G, List.lookup, Nat.reduceAdd, Nat.reduceBEq, Int.reduceBNe, Int.reduceBEq, Nat.reduceLeDiff, AV.cells, of68, al68, sz68]
        refine call_one (S := eqKVSpec) rfl _ GaL.rfl ⟨x, y, rfl, ?_⟩
        cases he : (x.1 == y.1 && x.2 == y.2)
        · have hne : ¬ l = l' := fun e => by
            subst e
            rw [← hx, ← hy] at he
            simp at he
          rw [decide_eq_false hne] at hq
          simp -dsimp only [Vm.E, List.lookup, Nat.reduceAdd, Nat.reduceBEq, Int.reduceBNe, Int.reduceBEq, Bool.true_beq, Bool.false_beq, Tryz.results71]
          exact hq
        · have hxy : x = y := by
            simp only [Bool.and_eq_true, beq_iff_eq] at he
            exact Prod.ext he.1 he.2
          simp -dsimp only [Vm.E, List.lookup, Nat.reduceAdd, Nat.reduceBEq, Int.reduceBNe, Int.reduceBEq, Bool.true_beq, Bool.false_beq, hw]
          refine kept_intro ⟨l.length - (i + 1), by omega, _, le_mk [(1, .sl 2 (l'.map kvAv)), (2, .clo 72 []), (15, .sl 2 (l.map kvAv)), (16, .v (.int .i64 l.length)), (17, .v (.int .i64 (i + 1 : Nat)))] ?_, i + 1, by omega, rfl, fun j hj hj2 => ?_, rfl⟩
          · simp only [List.forall_mem_cons, List.not_mem_nil, false_imp_iff, implies_true, and_true]
            simp -dsimp only [Vm.E, List.lookup, Nat.reduceAdd, Nat.reduceBEq, Int.reduceBNe, Int.reduceBEq, Bool.true_beq, Bool.false_beq]
            exact ⟨.refl _, .refl _, .refl _, .refl _, .refl _⟩
          · by_cases hji : j = i
            · subst hji; rw [hx, hy]; exact hxy
            · exact hb j hj (by omega)
      · have hge : ¬ i < l.length := by have := of_decide_eq_false hcc; omega
        have he : l = l' := List.ext_getElem hlen fun j h1 h2 => hb j h1 (by omega)
        rw [decide_eq_true he] at hq
        simp -dsimp only [Vm.E, List.lookup, Nat.reduceAdd, Nat.reduceBEq, Int.reduceBNe, Int.reduceBEq, Bool.true_beq, Bool.false_beq, Tryz.results71]
        exact hq
  · have c1 : ((l.length : Int) != l'.length) = true := by simp; omega
    rw [decide_eq_false fun e => hlen (by rw [e])] at hq
    simp -dsimp only [Vm.E, List.lookup, Nat.reduceAdd, Nat.reduceBEq, Int.reduceBNe, Int.reduceBEq, Bool.true_beq, Bool.false_beq, c1, Tryz.results71]
    exact hq
def pairsSpec : Vm.Spec := fun args h Q => ∃ l l' : List KV, l.length ≤ 9223372036854775807 ∧ args = [.sl 2 (l.map kvAv), .sl 2 (l'.map kvAv)] ∧ Q (.v (.bool (decide (l = l')))) h
theorem does_pairs : Does Tryz.prog 41 pairsSpec := by
  refine does_of_awp (good_cons does_eqF good_nil) Tryz.func41 rfl (by decide +kernel) (by decide +kernel) ?_
  rintro args h Q ⟨l, l', hl, rfl, hq⟩
  refine ⟨by simp [Tryz.f41], ?_⟩
  rw [awpFunc_some (by rfl)]
  simp -dsimp only [Vm.E, List.lookup, Nat.reduceAdd, Nat.reduceBEq, Int.reduceBNe, Int.reduceBEq, Bool.true_beq, Bool.false_beq]
  refine call_one (S := eqFSpec) rfl _ GaL.rfl ⟨l, l', hl, rfl, ?_⟩
  simp -dsimp only [Vm.E, List.lookup, Nat.reduceAdd, Nat.reduceBEq, Int.reduceBNe, Int.reduceBEq, Bool.true_beq, Bool.false_beq, Tryz.results41]
  exact hq
end Go.Proofs.Lx
/- Years: the reference's list; two lists of numbers. -/
set_option linter.unusedSimpArgs false
set_option linter.unusedVariables false
namespace Go.Proofs.Lx
open Go.Vm
attribute [local irreducible] awpArr awpBin awpMake awpAppend awpCvX awpStrOf awpBinX awpSlice awpBS awpStore awpAlloc awpCopy awpIndex awpDraw awpIdxX awpFa awpField awpLookup awpUpdate awpDelete awpClear awpRange awpNext awpEntry awpBuild awpClearS awpIdxL awpTree
end Go.Proofs.Lx
/- Nodes that go: IndexFunc and DeleteFunc at nodes (printed by gendel.py out of L15). -/
set_option linter.unusedSimpArgs false
set_option linter.unusedVariables false
namespace Go.Proofs.Lx
open Go.Vm
attribute [local irreducible] awpArr awpBin awpMake awpAppend awpCvX awpStrOf awpBinX awpSlice awpBS awpStore awpAlloc awpCopy awpIndex awpDraw awpIdxX awpFa awpField awpLookup awpUpdate awpDelete awpClear awpRange awpNext awpEntry awpBuild awpClearS awpIdxL
def isNd (x : AV) : Prop := ∃ n : Nd, x = .agg [AV.v (.int .i64 n.year), AV.v (.int .i64 n.id), AV.v (.int .i64 n.parent), AV.v (.int .i64 n.fund), AV.v (.int .i64 n.obj), AV.v (.bool n.abs), AV.v (.int .i64 n.limit), AV.v (.int .i64 n.pre), AV.v (.int .i64 n.enc), AV.v (.int .i64 n.exp), AV.v (.int .i64 n.lapsed), AV.v (.int .i64 n.carried)]
theorem isNd.cells {x : AV} (h : isNd x) : x.cells.length = 12 := by obtain ⟨n, rfl⟩ := h; rfl
end Go.Proofs.Lx
/- The tree of nodes: those of a year, those below one. -/
set_option linter.unusedSimpArgs false
set_option linter.unusedVariables false
namespace Go.Proofs.Lx
open Go.Vm
attribute [local irreducible] awpArr awpBin awpMake awpAppend awpCvX awpStrOf awpBinX awpSlice awpBS awpStore awpAlloc awpCopy awpIndex awpDraw awpIdxX awpFa awpField awpLookup awpUpdate awpDelete awpClear awpRange awpNext awpEntry awpBuild awpClearS awpIdxL
theorem filterMap_step {α β : Type} (g : α → Option β) (l : List α) (i : Nat) (hi : i < l.length) : (l.take (i + 1)).filterMap g = (l.take i).filterMap g ++ (g l[i]).toList := by
  rw [List.take_succ_eq_append_getElem hi, List.filterMap_append]
  cases h : g l[i] <;> simp [h]
theorem filterMap_le {α β : Type} (g : α → Option β) (l : List α) (i : Nat) : ((l.take i).filterMap g).length ≤ i := Nat.le_trans (List.length_filterMap_le ..) (by rw [List.length_take]; omega)
theorem key1_length (t : UInt8) (a : Int) : (keyOf t [a]).length = 5 := by simp [keyOf, packs, be_length]
abbrev w64s (l : List Int) : Int := l.foldl (fun a b => w64 (a + b)) 0
end Go.Proofs.Lx
/- The reference of nodes: ref19, ref28. -/
set_option linter.unusedSimpArgs false
set_option linter.unusedVariables false
namespace Go.Proofs.Lx
open Go.Vm
attribute [local irreducible] awpArr awpBin awpMake awpAppend awpCvX awpStrOf awpBinX awpSlice awpBS awpStore awpAlloc awpCopy awpIndex awpDraw awpIdxX awpFa awpField awpLookup awpUpdate awpDelete awpClear awpRange awpNext awpEntry awpBuild awpClearS awpIdxL awpTree appB awpIdxO eltA treeA
def isI (x : AV) (l : List Int) : Prop := x = .sl 1 (l.map encI) ∨ (l = [] ∧ x = .v (.slice none 0 0))
theorem isI.ga {x : AV} {l : List Int} (h : isI x l) : Ga x (.sl 1 (l.map encI)) := by
  rcases h with rfl | ⟨rfl, rfl⟩
  · exact .refl _
  · exact .nil 1
end Go.Proofs.Lx
/- The law TreeEnds. -/
set_option linter.unusedSimpArgs false
set_option linter.unusedVariables false
namespace Go.Proofs.Lx
open Go.Vm
attribute [local irreducible] awpArr awpBin awpMake awpAppend awpCvX awpStrOf awpBinX awpSlice awpBS awpStore awpAlloc awpCopy awpIndex awpDraw awpIdxX awpFa awpField awpLookup awpUpdate awpDelete awpClear awpRange awpNext awpEntry awpBuild awpClearS awpIdxL
def vnewASpec : Vm.Spec := fun args h Q => args = [nilP] ∧ ∀ V h', isView h' V noF → Q (.ptr V.iv 0) h'
theorem does_vnewA : Does Tryz.prog 15 vnewASpec := does_vnew.imp (by
  rintro args h Q ⟨rfl, hq⟩
  exact ⟨rfl, hq ⟨h.length + 2, h.length, h.length + 1⟩ _ (isView_new h)⟩)
end Go.Proofs.Lx
/- Balances: bal; the law BalBack. -/
set_option linter.unusedSimpArgs false
set_option linter.unusedVariables false
namespace Go.Proofs.Lx
open Go.Vm
attribute [local irreducible] awpArr awpBin awpMake awpAppend awpCvX awpStrOf awpBinX awpSlice awpBS awpStore awpAlloc awpCopy awpIndex awpDraw awpIdxX awpFa awpField awpLookup awpUpdate awpDelete awpClear awpRange awpNext awpEntry awpBuild awpClearS awpIdxL awpTree appB awpIdxO eltA treeA
def vdelSpec : Vm.Spec := fun args h Q => ∃ (V : VId) (f : Fun) (k : List UInt8), args = [.ptr V.iv 0, .sl 1 (k.map encB)] ∧ isView h V f ∧ (f k = none → Q (.v (.bool false)) h) ∧ (f k ≠ none → ∀ h', isView h' V (upd f k none) → Same h h' [V.ic] → Q (.v (.bool true)) h')
set_option maxRecDepth 20000 in
theorem does_vdel : Does Tryz.prog 10 vdelSpec := by
  refine does_of_awp (good_cons does_vgetW good_nil) Tryz.func10 rfl (by decide +kernel) (by decide +kernel) ?_
  rintro args h Q ⟨V, f, k, rfl, hV, hq1, hq2⟩
  refine ⟨by simp [Tryz.f10], ?_⟩
  rw [awpFunc_some (by rfl)]
  simp -dsimp only [Vm.G, List.lookup, Nat.reduceAdd, Nat.reduceBEq, Int.reduceBNe, Int.reduceBEq, Nat.reduceLeDiff, q10]
  refine call_one (S := vgetWSpec) rfl _ GaL.rfl ⟨V, f, k, rfl, hV, fun l hf => ?_, fun hf => ?_⟩
  · have hk32 := hV.klen hf
    obtain ⟨chg, clk, mem, clk2, h1, h2, h3, h4, h5, h6, h7⟩ := hV
    simp -dsimp only [Vm.G, List.lookup, Nat.reduceAdd, Nat.reduceBEq, Int.reduceBNe, Int.reduceBEq, Nat.reduceLeDiff, q10]
    refine draw_cont [] (.take 0 (.take 1 (.take 2 (.take 4 (.take 5 (.alt 3 (.alt 6 (.alt 7 (.done) .stop) .stop) (.alt 6 (.alt 3 (.alt 7 (.done) .stop) .stop) (.stop)))))))) (fun s h' => isView h' V (upd f k none) ∧ Same h h' [V.ic]) (by kernel_rfl) (by kernel_rfl) (by kernel_rfl) (by decide) ?_ ?_
    · repeat' first
        | with_reducible exact True.intro
        | exact ⟨isView.put (l := []) (b := true) h1 h2 h3 h4 h5 h6 h7 (.inr ⟨rfl, rfl⟩) (by simp) hk32, Same.set _ _ _⟩
        | simp -dsimp only [Vm.G, List.lookup, Nat.reduceAdd, Nat.reduceBEq, Int.reduceBNe, Int.reduceBEq, Nat.reduceLeDiff, q10, h1]
        | refine strOf_sl bt22 k rfl ?_
        | refine update_intro mt25 chg clk h2 trivial (keys_str fun e he => (h5.1 e he).1) ?_
        | refine tree_alt ?_ ?_
    · rintro s h' ⟨g1, g2⟩
      simp -dsimp only [Vm.G, List.lookup, Nat.reduceAdd, Nat.reduceBEq, Int.reduceBNe, Int.reduceBEq, Nat.reduceLeDiff, q10]
      exact hq2 (by rw [hf]; simp) h' g1 g2
  · simp -dsimp only [Vm.G, List.lookup, Nat.reduceAdd, Nat.reduceBEq, Int.reduceBNe, Int.reduceBEq, Nat.reduceLeDiff, q10]
    exact hq1 hf
def numberSpec : Vm.Spec := fun args h Q => ∃ b : List UInt8, b.length ≤ 1073741824 ∧ args = [.sl 1 (b.map encB)] ∧ Q (.tup [.v (.int .i64 (if b.length = 8 then num8 b 0 else 0)), .v (.bool (b.length == 8))]) h
theorem does_number : Does Tryz.prog 112 numberSpec := by
  refine does_of_awp (good_cons does_unpack good_nil) Tryz.func112 rfl (by decide +kernel) (by decide +kernel) ?_
  rintro args h Q ⟨b, hl, rfl, hq⟩
  refine ⟨by simp [Tryz.f112], ?_⟩
  rw [awpFunc_some (by rfl)]
  simp -dsimp only [Vm.G, List.lookup, Nat.reduceAdd, Nat.reduceBEq, Int.reduceBNe, Int.reduceBEq, Nat.reduceLeDiff, q112]
  refine call_one (S := unpackSpec) rfl _ GaL.rfl ⟨b, 1, by omega, by unfold I64; omega, rfl, ?_⟩
  unfold unpackRes
  by_cases h8 : b.length = 8
  · have c8 : (b.length == 8) = true := by simpa using h8
    rw [if_pos h8, c8] at hq
    rw [if_neg (by omega), if_neg (by simp [h8])]
    simp -dsimp only [Vm.G, List.lookup, Nat.reduceAdd, Nat.reduceBEq, Int.reduceBNe, Int.reduceBEq, Nat.reduceLeDiff, q112, bne_self_eq_false]
    refine idx_ints (numsOf b 1) 0 (by simp [numsOf]) ?_
    have e0 : (numsOf b 1)[0]'(by simp [numsOf]) = num8 b 0 := by simp [numsOf]
    simp -dsimp only [Vm.G, List.lookup, Nat.reduceAdd, Nat.reduceBEq, Int.reduceBNe, Int.reduceBEq, Nat.reduceLeDiff, q112, e0]
    exact hq
  · have c8 : (b.length == 8) = false := by simpa using h8
    rw [if_neg h8, c8] at hq
    rw [if_neg (by omega), if_pos (by omega)]
    simp -dsimp only [Vm.G, List.lookup, Nat.reduceAdd, Nat.reduceBEq, Int.reduceBNe, Int.reduceBEq, Nat.reduceLeDiff, q112]
    exact hq
def balReadSpec : Vm.Spec := fun args h Q => ∃ (V : VId) (f : Fun) (key : List UInt8), args = [.agg [.ptr V.iv 0, .sl 1 (key.map encB)]] ∧ isView h V f ∧ Q (.v (.int .i64 (readOf f key))) h
theorem does_balRead : Does Tryz.prog 160 balReadSpec := by
  refine does_of_awp (good_cons does_vgetW (good_cons does_number good_nil)) Tryz.func160 rfl (by decide +kernel) (by decide +kernel) ?_
  rintro args h Q ⟨V, f, key, rfl, hV, hq⟩
  refine ⟨by simp [Tryz.f160], ?_⟩
  rw [awpFunc_some (by rfl)]
  unfold readOf at hq
  simp -dsimp only [Vm.G, List.lookup, Nat.reduceAdd, Nat.reduceBEq, Int.reduceBNe, Int.reduceBEq, Nat.reduceLeDiff, q160]
  refine call_one (S := vgetWSpec) rfl _ GaL.rfl ⟨V, f, key, rfl, hV, fun l hf => ?_, fun hf => ?_⟩
  · have hl := hV.len _ _ hf
    rw [hf] at hq
    have hq : Q (.v (.int .i64 (if l.length = 8 then num8 l 0 else 0))) h := hq
    simp -dsimp only [Vm.G, List.lookup, Nat.reduceAdd, Nat.reduceBEq, Int.reduceBNe, Int.reduceBEq, Nat.reduceLeDiff, q160]
    refine call_one (S := numberSpec) rfl _ GaL.rfl ⟨l, by omega, rfl, ?_⟩
    simp -dsimp only [Vm.G, List.lookup, Nat.reduceAdd, Nat.reduceBEq, Int.reduceBNe, Int.reduceBEq, Nat.reduceLeDiff, q160]
    exact hq
  · rw [hf] at hq
    simp -dsimp only [Vm.G, List.lookup, Nat.reduceAdd, Nat.reduceBEq, Int.reduceBNe, Int.reduceBEq, Nat.reduceLeDiff, q160]
    exact hq
/-- A balance that is set; 0 does not stand. -/
def balSet (f : Fun) (key : List UInt8) (n : Int) : Fun := if n = 0 then (if f key = none then f else upd f key none) else upd f key (some (be 8 n))
theorem right8 {key : List UInt8} (n : Int) (h1 : 1 ≤ key.length) (h2 : key.length ≤ 32) : rightKV key (be 8 n) = true := by
  simp [rightKV, be_length]; omega
def balWriteSpec : Vm.Spec := fun args h Q => ∃ (V : VId) (f : Fun) (key : List UInt8) (n : Int), args = [.agg [.ptr V.iv 0, .sl 1 (key.map encB)], .v (.int .i64 n)] ∧ I64 n ∧ (1 ≤ key.length ∧ key.length ≤ 32) ∧ isView h V f ∧
  ∀ h', isView h' V (balSet f key n) → Same h h' [V.ic] → Q (.v (.int .i64 0)) h'
set_option maxRecDepth 20000 in
theorem does_balWrite : Does Tryz.prog 161 balWriteSpec := by
  refine does_of_awp (good_cons does_vdel (good_cons does_pack (good_cons does_vput good_nil))) Tryz.func161 rfl (by decide +kernel) (by decide +kernel) ?_
  rintro args h Q ⟨V, f, key, n, rfl, hn, hk, hV, hq⟩
  refine ⟨by simp [Tryz.f161], ?_⟩
  rw [awpFunc_some (by rfl)]
  unfold balSet at hq
  simp -dsimp only [Vm.G, List.lookup, Nat.reduceAdd, Nat.reduceBEq, Int.reduceBNe, Int.reduceBEq, Nat.reduceLeDiff, q161]
  cases c1 : (n != 0)
  · have d1 : n = 0 := by simpa using c1
    simp only [if_pos d1] at hq
    simp -dsimp only [Vm.G, List.lookup, Nat.reduceAdd, Nat.reduceBEq, Int.reduceBNe, Int.reduceBEq, Nat.reduceLeDiff, q161]
    refine call_one (S := vdelSpec) rfl _ GaL.rfl ⟨V, f, key, rfl, hV, fun hf => ?_, fun hf h' g1 g2 => ?_⟩
    · simp -dsimp only [Vm.G, List.lookup, Nat.reduceAdd, Nat.reduceBEq, Int.reduceBNe, Int.reduceBEq, Nat.reduceLeDiff, q161]
      exact hq h (by rw [if_pos hf]; exact hV) (.refl _ _)
    · simp -dsimp only [Vm.G, List.lookup, Nat.reduceAdd, Nat.reduceBEq, Int.reduceBNe, Int.reduceBEq, Nat.reduceLeDiff, q161]
      exact hq h' (by rw [if_neg hf]; exact g1) g2
  · have d1 : ¬ n = 0 := by simpa using c1
    simp only [if_neg d1] at hq
    simp -dsimp only [Vm.G, List.lookup, Nat.reduceAdd, Nat.reduceBEq, Int.reduceBNe, Int.reduceBEq, Nat.reduceLeDiff, q161]
    refine draw_cont [2] (.take 0 (.take 1 (.take 2 (.take 3 (.take 4 (.alt 5 (.alt 6 (.alt 7 (.alt 8 (.done) .stop) .stop) .stop) .stop)))))) (fun s h' => isView h' V (upd f key (some (be 8 n))) ∧ Same h h' [V.ic] ∧ s 4 = .v (.int .i64 0)) (by kernel_rfl) (by kernel_rfl) (by kernel_rfl) (by decide) ?_ ?_
    · simp -dsimp only [Vm.G, List.lookup, Nat.reduceAdd, Nat.reduceBEq, Int.reduceBNe, Int.reduceBEq, Nat.reduceLeDiff, q161]
      refine bs_intro zr3 (by decide) (by decide) rfl rfl (by simp [solid, AV.cells]) ?_
      simp -dsimp only [Vm.G, List.lookup, Nat.reduceAdd, Nat.reduceBEq, Int.reduceBNe, Int.reduceBEq, Nat.reduceLeDiff, q161]
      refine call_one (S := packSpec) rfl _ GaL.rfl ⟨[n], by simp, by simpa using hn, rfl, ?_⟩
      simp only [packOf_one]
      simp -dsimp only [Vm.G, List.lookup, Nat.reduceAdd, Nat.reduceBEq, Int.reduceBNe, Int.reduceBEq, Nat.reduceLeDiff, q161]
      refine call_one (S := vputSpec) rfl _ GaL.rfl ⟨V, f, key, be 8 n, rfl, hV, fun _ h' g1 g2 => ?_, fun hc => by rw [right8 n hk.1 hk.2] at hc; cases hc⟩
      simp -dsimp only [Vm.G, List.lookup, Nat.reduceAdd, Nat.reduceBEq, Int.reduceBNe, Int.reduceBEq, Nat.reduceLeDiff, q161]
      exact ⟨g1, g2, trivial⟩
    · rintro s h' ⟨g1, g2, g3⟩
      simp -dsimp only [Vm.G, List.lookup, Nat.reduceAdd, Nat.reduceBEq, Int.reduceBNe, Int.reduceBEq, Nat.reduceLeDiff, q161, g3]
      exact hq h' g1 g2
def fitsP (n : Int) : Bool := decide (-4611686018427387904 ≤ n) && decide (n ≤ 4611686018427387904)
theorem does_fits : Does Tryz.prog 195 (predSpec fitsP) := by
  refine does_of_awp good_nil Tryz.func195 rfl (by decide +kernel) (by decide +kernel) ?_
  rintro args h Q ⟨n, rfl, hq⟩
  refine ⟨by simp [Tryz.f195], ?_⟩
  rw [awpFunc_some (by rfl)]
  unfold fitsP at hq
  simp -dsimp only [Vm.G, List.lookup, Nat.reduceAdd, Nat.reduceBEq, Int.reduceBNe, Int.reduceBEq, Nat.reduceLeDiff, q195]
  cases c1 : decide (-4611686018427387904 ≤ n)
  · rw [c1] at hq
    simp -dsimp only [Vm.G, List.lookup, Nat.reduceAdd, Nat.reduceBEq, Int.reduceBNe, Int.reduceBEq, Nat.reduceLeDiff, q195]
    exact hq
  · rw [c1] at hq
    simp -dsimp only [Vm.G, List.lookup, Nat.reduceAdd, Nat.reduceBEq, Int.reduceBNe, Int.reduceBEq, Nat.reduceLeDiff, q195]
    exact hq
/-- Two totals together. -/
def addA (a b : Int) : Option Int := if fitsP a && (fitsP b && fitsP (w64 (a + b))) then some (w64 (a + b)) else none
def addSpec : Vm.Spec := fun args h Q => ∃ a b, args = [.v (.int .i64 a), .v (.int .i64 b)] ∧ (∀ n, addA a b = some n → Q (.tup [.v (.int .i64 n), .v (.int .i64 0)]) h) ∧ (addA a b = none → Q (.tup [.v (.int .i64 0), .v (.int .i64 9)]) h)
theorem does_add : Does Tryz.prog 159 addSpec := by
  refine does_of_awp (good_cons does_fits good_nil) Tryz.func159 rfl (by decide +kernel) (by decide +kernel) ?_
  rintro args h Q ⟨a, b, rfl, hq1, hq2⟩
  refine ⟨by simp [Tryz.f159], ?_⟩
  rw [awpFunc_some (by rfl)]
  unfold addA at hq1 hq2
  simp -dsimp only [Vm.G, List.lookup, Nat.reduceAdd, Nat.reduceBEq, Int.reduceBNe, Int.reduceBEq, Nat.reduceLeDiff, q159]
  refine call_one (S := predSpec fitsP) rfl _ GaL.rfl ⟨a, rfl, ?_⟩
  cases c1 : fitsP a
  · simp -dsimp only [Vm.G, List.lookup, Nat.reduceAdd, Nat.reduceBEq, Int.reduceBNe, Int.reduceBEq, Nat.reduceLeDiff, q159]
    exact hq2 (by rw [c1]; rfl)
  · simp -dsimp only [Vm.G, List.lookup, Nat.reduceAdd, Nat.reduceBEq, Int.reduceBNe, Int.reduceBEq, Nat.reduceLeDiff, q159]
    refine call_one (S := predSpec fitsP) rfl _ GaL.rfl ⟨b, rfl, ?_⟩
    cases c2 : fitsP b
    · simp -dsimp only [Vm.G, List.lookup, Nat.reduceAdd, Nat.reduceBEq, Int.reduceBNe, Int.reduceBEq, Nat.reduceLeDiff, q159]
      exact hq2 (by rw [c1, c2]; rfl)
    · simp -dsimp only [Vm.G, List.lookup, Nat.reduceAdd, Nat.reduceBEq, Int.reduceBNe, Int.reduceBEq, Nat.reduceLeDiff, q159]
      refine call_one (S := predSpec fitsP) rfl _ GaL.rfl ⟨_, rfl, ?_⟩
      cases c3 : fitsP (IntKind.i64.wrap (a + b))
      · simp -dsimp only [Vm.G, List.lookup, Nat.reduceAdd, Nat.reduceBEq, Int.reduceBNe, Int.reduceBEq, Nat.reduceLeDiff, q159]
        exact hq2 (by rw [c1, c2, c3]; rfl)
      · simp -dsimp only [Vm.G, List.lookup, Nat.reduceAdd, Nat.reduceBEq, Int.reduceBNe, Int.reduceBEq, Nat.reduceLeDiff, q159]
        exact hq1 _ (by rw [c1, c2, c3]; rfl)
def ofBalSpec : Vm.Spec := fun args h Q => ∃ (iv : Nat) (l : List Int), l.length ≤ 7 ∧ args = [.ptr iv 0, .sl 1 (l.map encI)] ∧ Q (.agg [.ptr iv 0, .sl 1 ((keyOf 66 l).map encB)]) h
theorem does_ofBal : Does Tryz.prog 158 ofBalSpec := by
  refine does_of_awp (good_cons does_key good_nil) Tryz.func158 rfl (by decide +kernel) (by decide +kernel) ?_
  rintro args h Q ⟨iv, l, hl, rfl, hq⟩
  refine ⟨by simp [Tryz.f158], ?_⟩
  rw [awpFunc_some (by rfl)]
  simp -dsimp only [Vm.G, List.lookup, Nat.reduceAdd, Nat.reduceBEq, Int.reduceBNe, Int.reduceBEq, Nat.reduceLeDiff, q158]
  refine call_one (S := keySpec) rfl _ GaL.rfl ⟨66, l, by omega, rfl, ?_⟩
  simp -dsimp only [Vm.G, List.lookup, Nat.reduceAdd, Nat.reduceBEq, Int.reduceBNe, Int.reduceBEq, Nat.reduceLeDiff, q158]
  exact hq
def balK (y fd ob : Int) : List UInt8 := keyOf 66 [y, fd, ob]
theorem balK_length (y fd ob : Int) : (balK y fd ob).length = 13 := by simp [balK, keyOf, packs, be_length]
structure Ln where
  fund : Int
  obj : Int
  node : Int
  amt : Int
def lnCells (x : Ln) : List AV := [.v (.int .i64 x.fund), .v (.int .i64 x.obj), .v (.int .i64 x.node), .v (.int .i64 x.amt)]
def lnAv (x : Ln) : AV := .agg (lnCells x)
theorem addA_i64 {a b n : Int} (h : addA a b = some n) : I64 n := by
  unfold addA at h
  split at h
  · cases h; exact w64_range _
  · cases h
def balAdd (f : Fun) (key : List UInt8) (amt : Int) : Fun × Int := match addA (readOf f key) amt with
  | some n => (balSet f key n, 0)
  | none => (f, 9)
def balAddSpec : Vm.Spec := fun args h Q => ∃ (V : VId) (f : Fun) (y : Int) (x : Ln), args = [.ptr V.iv 0, .v (.int .i64 y), lnAv x] ∧ isView h V f ∧
  ∀ h', isView h' V (balAdd f (balK y x.fund x.obj) x.amt).1 → Same h h' [V.ic] → Q (.v (.int .i64 (balAdd f (balK y x.fund x.obj) x.amt).2)) h'
set_option maxRecDepth 20000 in
theorem does_balAdd : Does Tryz.prog 119 balAddSpec := by
  refine does_of_awp (good_cons does_ofBal (good_cons does_balRead (good_cons does_add (good_cons does_balWrite good_nil)))) Tryz.func119 rfl (by decide +kernel) (by decide +kernel) ?_
  rintro args h Q ⟨V, f, y, x, rfl, hV, hq⟩
  refine ⟨by simp [Tryz.f119], ?_⟩
  rw [awpFunc_some (by rfl)]
  simp only [lnAv, lnCells]
  simp -dsimp only [Vm.G, List.lookup, Nat.reduceAdd, Nat.reduceBEq, Int.reduceBNe, Int.reduceBEq, Nat.reduceLeDiff, q119]
  refine bs_intro zr3 (by decide) (by decide) rfl rfl (by simp [solid, AV.cells]) ?_
  simp -dsimp only [Vm.G, List.lookup, Nat.reduceAdd, Nat.reduceBEq, Int.reduceBNe, Int.reduceBEq, Nat.reduceLeDiff, q119]
  refine call_one (S := ofBalSpec) rfl _ GaL.rfl ⟨V.iv, [y, x.fund, x.obj], by simp, rfl, ?_⟩
  have hkl := balK_length y x.fund x.obj
  have ek : keyOf 66 [y, x.fund, x.obj] = balK y x.fund x.obj := rfl
  simp only [ek]
  generalize balK y x.fund x.obj = key at hkl hq ⊢
  unfold balAdd at hq
  simp -dsimp only [Vm.G, List.lookup, Nat.reduceAdd, Nat.reduceBEq, Int.reduceBNe, Int.reduceBEq, Nat.reduceLeDiff, q119]
  refine draw_cont [5, 7] (.take 0 (.take 2 (.take 3 (.alt 1 (.alt 4 (.take 5 (.take 6 (.take 7 (.alt 8 (.alt 9 (.done) .stop) .stop)))) .stop) .stop)))) (fun s h' => h' = h ∧ s 7 = .eptr [.ptr V.iv 0, .sl 1 (key.map encB)] ∧ ((∃ n, addA (readOf f key) x.amt = some n ∧ s 8 = .v (.int .i64 n) ∧ s 9 = .v (.int .i64 0)) ∨ (addA (readOf f key) x.amt = none ∧ s 9 = .v (.int .i64 9)))) (by kernel_rfl) (by kernel_rfl) (by kernel_rfl) (by decide) ?_ ?_
  · simp -dsimp only [Vm.G, List.lookup, Nat.reduceAdd, Nat.reduceBEq, Int.reduceBNe, Int.reduceBEq, Nat.reduceLeDiff, q119]
    refine call_one (S := balReadSpec) rfl _ GaL.rfl ⟨V, f, key, rfl, hV, ?_⟩
    simp -dsimp only [Vm.G, List.lookup, Nat.reduceAdd, Nat.reduceBEq, Int.reduceBNe, Int.reduceBEq, Nat.reduceLeDiff, q119]
    refine call_one (S := addSpec) rfl _ GaL.rfl ⟨readOf f key, x.amt, rfl, fun n hn => ?_, fun hn => ?_⟩
    · simp -dsimp only [Vm.G, List.lookup, Nat.reduceAdd, Nat.reduceBEq, Int.reduceBNe, Int.reduceBEq, Nat.reduceLeDiff, q119]
      exact .inl ⟨n, hn, rfl, trivial⟩
    · simp -dsimp only [Vm.G, List.lookup, Nat.reduceAdd, Nat.reduceBEq, Int.reduceBNe, Int.reduceBEq, Nat.reduceLeDiff, q119]
      exact .inr ⟨hn, trivial⟩
  · rintro s h' ⟨rfl, e7, ⟨n, hn, e8, e9⟩ | ⟨hn, e9⟩⟩
    · rw [hn] at hq
      simp -dsimp only [Vm.G, List.lookup, Nat.reduceAdd, Nat.reduceBEq, Int.reduceBNe, Int.reduceBEq, Nat.reduceLeDiff, q119, e7, e8, e9]
      refine call_one (S := balWriteSpec) rfl _ GaL.rfl ⟨V, f, key, n, rfl, addA_i64 hn, by omega, hV, fun h2 g1 g2 => ?_⟩
      simp -dsimp only [Vm.G, List.lookup, Nat.reduceAdd, Nat.reduceBEq, Int.reduceBNe, Int.reduceBEq, Nat.reduceLeDiff, q119]
      exact hq h2 g1 g2
    · rw [hn] at hq
      simp -dsimp only [Vm.G, List.lookup, Nat.reduceAdd, Nat.reduceBEq, Int.reduceBNe, Int.reduceBEq, Nat.reduceLeDiff, q119, e7, e9]
      exact hq h' hV (.refl _ _)
/-- The balance of a pair. -/
def balOf (year : Int) (p : KV) : Option Ln := match splitOf p.1 with
  | some (_, [y, fd, ob]) => if p.2.length = 8 then (if y = year then some ⟨fd, ob, 0, num8 p.2 0⟩ else none) else none
  | _ => none
abbrev allB (year : Int) (l : List KV) : List Ln := l.filterMap (balOf year)
def balAllSpec : Vm.Spec := fun args h Q => ∃ (V : VId) (f : Fun) (year : Int), args = [.ptr V.iv 0, .v (.int .i64 year)] ∧ isView h V f ∧ f.n ≤ 536870912 ∧
  ∀ l h', ScanIs f (keyOf 66 [year]) l → l.length ≤ 2 * f.n → isView h' V f → Same h h' [] → Q (.own true 53 4 ((allB year l).map lnAv)) h'
set_option maxRecDepth 20000 in
set_option maxHeartbeats 1000000 in
theorem does_balAll : Does Tryz.prog 75 balAllSpec := by
  refine does_of_awp (good_cons does_key (good_cons does_scan (good_cons does_split (good_cons does_number good_nil)))) Tryz.func75 rfl (by decide +kernel) (by decide +kernel) ?_
  rintro args h Q ⟨V, f, year, rfl, hV, hn, hq⟩
  refine ⟨by simp [Tryz.f75], ?_⟩
  rw [awpFunc_some (by rfl)]
  simp -dsimp only [Vm.G, List.lookup, Nat.reduceAdd, Nat.reduceBEq, Int.reduceBNe, Int.reduceBEq, Nat.reduceLeDiff, q75]
  refine bs_intro zr3 (by decide) (by decide) rfl rfl (by simp [solid, AV.cells]) ?_
  simp -dsimp only [Vm.G, List.lookup, Nat.reduceAdd, Nat.reduceBEq, Int.reduceBNe, Int.reduceBEq, Nat.reduceLeDiff, q75]
  refine call_one (S := keySpec) rfl _ GaL.rfl ⟨66, [year], by simp, rfl, ?_⟩
  simp -dsimp only [Vm.G, List.lookup, Nat.reduceAdd, Nat.reduceBEq, Int.reduceBNe, Int.reduceBEq, Nat.reduceLeDiff, q75]
  refine call_one (S := scanSpec) rfl _ GaL.rfl ⟨V, f, keyOf 66 [year], rfl, by rw [key1_length]; decide, hV, hn, fun l h1 hsc hln hV1 hs1 => ?_⟩
  simp -dsimp only [Vm.G, List.lookup, Nat.reduceAdd, Nat.reduceBEq, Int.reduceBNe, Int.reduceBEq, Nat.reduceLeDiff, q75]
  refine awp_loop (fun m s h' => ∃ i : Nat, i + m = l.length ∧ h' = h1 ∧ s = mk [(1, .v (.int .i64 year)), (5, .own true 53 4 ((allB year (l.take (i))).map lnAv)), (17, .own true 68 2 (l.map kvAv)), (18, .v (.int .i64 l.length)), (19, .v (.int .i64 (i : Nat)))])
    l.length _ (le_mk _ ?_) ⟨0, by omega, rfl, rfl⟩ ?_
  · simp only [List.forall_mem_cons, List.not_mem_nil, false_imp_iff, implies_true, and_true]
    try simp -dsimp only [Vm.G, List.lookup, Nat.reduceAdd, Nat.reduceBEq, Int.reduceBNe, Int.reduceBEq, Nat.reduceLeDiff, q75]
    repeat' first | exact Fg.refl _ | exact Fg.nil _ _ _ (by decide) | refine And.intro ?_ ?_
  · rintro m s h' ⟨i, hi, rfl, rfl⟩
    simp -dsimp only [Vm.G, List.lookup, Nat.reduceAdd, Nat.reduceBEq, Int.reduceBNe, Int.reduceBEq, Nat.reduceLeDiff, q75]
    refine cond_intro (fun hcc => ?_) (fun hcc => ?_)
    · have hlt : i < l.length := by have := of_decide_eq_true hcc; omega
      have hw : IntKind.i64.wrap ((i : Int) + 1) = ((i + 1 : Nat) : Int) := by rw [wrap_i64 (by omega) (by omega)]; simp
      have hget : (l.map kvAv)[i]? = some (kvAv l[i]) := by simp [hlt]
      have est := filterMap_step (balOf year) l i hlt
      have hal : (allB year (l.take i)).length ≤ i := filterMap_le (balOf year) l i
      have hin := ((hsc.2 l[i].1 l[i].2).1 (List.getElem_mem hlt)).1
      have hkl : l[i].1.length ≤ 32 := hV.klen hin
      have hvl : l[i].2.length ≤ 120 := hV.len _ _ hin
      clear hin
      generalize l[i] = p at hget est hkl hvl
      obtain ⟨k, v⟩ := p
      simp only at hkl hvl
      have e0 : balOf year (k, v) = match splitOf k with
        | some (_, [y, fd, ob]) => if v.length = 8 then (if y = year then some ⟨fd, ob, 0, num8 v 0⟩ else none) else none
        | _ => none := rfl
      simp -dsimp only [Vm.G, List.lookup, Nat.reduceAdd, Nat.reduceBEq, Int.reduceBNe, Int.reduceBEq, Nat.reduceLeDiff, q75]
      refine idxO_intro (by omega) (by simp; omega) ?_
      simp -dsimp only [Vm.G, List.lookup, Nat.reduceAdd, Nat.reduceBEq, Int.reduceBNe, Int.reduceBEq, Nat.reduceLeDiff, q75, Int.toNat_natCast]
      refine eltA_intro hget ?_
      simp only [kvAv]
      simp -dsimp only [Vm.G, List.lookup, Nat.reduceAdd, Nat.reduceBEq, Int.reduceBNe, Int.reduceBEq, Nat.reduceLeDiff, q75, AV.cells, List.drop_zero]
      refine call_one (S := splitSpec) rfl _ GaL.rfl ⟨k, by omega, rfl, fun hs => ?_, fun t l' hs => ?_⟩
      · rw [hs] at e0
        simp only at e0
        rw [e0] at est
        unfold noKey
        simp -dsimp only [Vm.G, List.lookup, Nat.reduceAdd, Nat.reduceBEq, Int.reduceBNe, Int.reduceBEq, Nat.reduceLeDiff, q75]
        refine call_one (S := numberSpec) rfl _ GaL.rfl ⟨v, by omega, rfl, ?_⟩
        simp -dsimp only [Vm.G, List.lookup, Nat.reduceAdd, Nat.reduceBEq, Int.reduceBNe, Int.reduceBEq, Nat.reduceLeDiff, q75]
        refine kept_intro ⟨l.length - (i + 1), by omega, _, le_mk [(1, .v (.int .i64 year)), (5, .own true 53 4 ((allB year (l.take (i + 1))).map lnAv)), (17, .own true 68 2 (l.map kvAv)), (18, .v (.int .i64 l.length)), (19, .v (.int .i64 (i + 1 : Nat)))] ?_, i + 1, by omega, rfl, rfl⟩
        simp only [List.forall_mem_cons, List.not_mem_nil, false_imp_iff, implies_true, and_true, hw, est, Option.toList, List.append_nil]
        try simp -dsimp only [Vm.G, List.lookup, Nat.reduceAdd, Nat.reduceBEq, Int.reduceBNe, Int.reduceBEq, Nat.reduceLeDiff, q75, hw, est, Option.toList, List.append_nil]
        repeat' first | exact Fg.refl _ | exact Fg.nil _ _ _ (by decide) | refine And.intro ?_ ?_
      · rw [hs] at e0
        simp -dsimp only [Vm.G, List.lookup, Nat.reduceAdd, Nat.reduceBEq, Int.reduceBNe, Int.reduceBEq, Nat.reduceLeDiff, q75]
        refine call_one (S := numberSpec) rfl _ GaL.rfl ⟨v, by omega, rfl, ?_⟩
        cases c8 : (v.length == 8)
        · have d8 : ¬ v.length = 8 := by simpa using c8
          have e0 : balOf year (k, v) = none := by
            rw [e0]
            simp only [if_neg d8]
            split <;> rfl
          rw [e0] at est
          simp -dsimp only [Vm.G, List.lookup, Nat.reduceAdd, Nat.reduceBEq, Int.reduceBNe, Int.reduceBEq, Nat.reduceLeDiff, q75]
          refine kept_intro ⟨l.length - (i + 1), by omega, _, le_mk [(1, .v (.int .i64 year)), (5, .own true 53 4 ((allB year (l.take (i + 1))).map lnAv)), (17, .own true 68 2 (l.map kvAv)), (18, .v (.int .i64 l.length)), (19, .v (.int .i64 (i + 1 : Nat)))] ?_, i + 1, by omega, rfl, rfl⟩
          simp only [List.forall_mem_cons, List.not_mem_nil, false_imp_iff, implies_true, and_true, hw, est, Option.toList, List.append_nil]
          try simp -dsimp only [Vm.G, List.lookup, Nat.reduceAdd, Nat.reduceBEq, Int.reduceBNe, Int.reduceBEq, Nat.reduceLeDiff, q75, hw, est, Option.toList, List.append_nil]
          repeat' first | exact Fg.refl _ | exact Fg.nil _ _ _ (by decide) | refine And.intro ?_ ?_
        · have d8 : v.length = 8 := by simpa using c8
          simp -dsimp only [Vm.G, List.lookup, Nat.reduceAdd, Nat.reduceBEq, Int.reduceBNe, Int.reduceBEq, Nat.reduceLeDiff, q75]
          by_cases d3 : l'.length = 3
          · have c3 : ((l'.length : Int) == 3) = true := by simp [d3]
            match l', d3 with
            | [y, fd, ob], _ =>
            simp only [if_pos d8] at e0
            have k3 : (((3 : Nat) : Int) == 3) = true := rfl
            have g0 : (([y, fd, ob] : List Int).map encI)[(0 : Int).toNat]? = some (encI y) := rfl
            have g1 : (([y, fd, ob] : List Int).map encI)[(1 : Int).toNat]? = some (encI fd) := rfl
            have g2 : (([y, fd, ob] : List Int).map encI)[(2 : Int).toNat]? = some (encI ob) := rfl
            have hl3 : (([y, fd, ob] : List Int).map encI).length = 3 := rfl
            generalize hxs : ([y, fd, ob] : List Int).map encI = xs at g0 g1 g2 hl3 ⊢
            simp -dsimp only [Vm.G, List.lookup, Nat.reduceAdd, Nat.reduceBEq, Int.reduceBNe, Int.reduceBEq, Nat.reduceLeDiff, q75, hl3, k3]
            refine idxO_intro (by decide) (by rw [hl3]; decide) ?_
            simp -dsimp only [Vm.G, List.lookup, Nat.reduceAdd, Nat.reduceBEq, Int.reduceBNe, Int.reduceBEq, Nat.reduceLeDiff, q75]
            refine eltA_intro g0 ?_
            simp only [encI]
            simp -dsimp only [Vm.G, List.lookup, Nat.reduceAdd, Nat.reduceBEq, Int.reduceBNe, Int.reduceBEq, Nat.reduceLeDiff, q75, AV.cells, List.drop_zero]
            cases cy : (y == year)
            · have dy : ¬ y = year := by simpa using cy
              rw [if_neg dy] at e0
              rw [e0] at est
              simp -dsimp only [Vm.G, List.lookup, Nat.reduceAdd, Nat.reduceBEq, Int.reduceBNe, Int.reduceBEq, Nat.reduceLeDiff, q75]
              refine kept_intro ⟨l.length - (i + 1), by omega, _, le_mk [(1, .v (.int .i64 year)), (5, .own true 53 4 ((allB year (l.take (i + 1))).map lnAv)), (17, .own true 68 2 (l.map kvAv)), (18, .v (.int .i64 l.length)), (19, .v (.int .i64 (i + 1 : Nat)))] ?_, i + 1, by omega, rfl, rfl⟩
              simp only [List.forall_mem_cons, List.not_mem_nil, false_imp_iff, implies_true, and_true, hw, est, Option.toList, List.append_nil]
              try simp -dsimp only [Vm.G, List.lookup, Nat.reduceAdd, Nat.reduceBEq, Int.reduceBNe, Int.reduceBEq, Nat.reduceLeDiff, q75, hw, est, Option.toList, List.append_nil]
              repeat' first | exact Fg.refl _ | exact Fg.nil _ _ _ (by decide) | refine And.intro ?_ ?_
            · have dy : y = year := by simpa using cy
              rw [if_pos dy] at e0
              rw [e0] at est
              simp -dsimp only [Vm.G, List.lookup, Nat.reduceAdd, Nat.reduceBEq, Int.reduceBNe, Int.reduceBEq, Nat.reduceLeDiff, q75]
              refine draw_cont [] (.take 0 (.take 1 (.take 2 (.take 4 (.take 5 (.take 7 (.alt 3 (.alt 6 (.alt 8 (.alt 9 (.alt 10 (.alt 11 (.done) .stop) .stop) .stop) .stop) .stop) (.alt 6 (.alt 3 (.alt 8 (.alt 9 (.alt 10 (.alt 11 (.done) .stop) .stop) .stop) .stop) .stop) (.stop))))))))) (fun s h2 => h2 = h' ∧ s 5 = .own true 53 4 ((allB year (l.take (i + 1))).map lnAv) ∧ s 1 = .v (.int .i64 year) ∧ s 17 = .own true 68 2 (l.map kvAv) ∧ s 18 = .v (.int .i64 l.length) ∧ s 19 = .v (.int .i64 i)) (by kernel_rfl) (by kernel_rfl) (by kernel_rfl) (by decide) ?_ ?_
              · repeat' first
                  | with_reducible exact True.intro
                  | simp -dsimp only [Vm.G, List.lookup, Nat.reduceAdd, Nat.reduceBEq, Int.reduceBNe, Int.reduceBEq, Nat.reduceLeDiff, q75, est, List.map_append, List.map_cons, List.map_nil, Option.toList, lnAv, lnCells, AV.cells, List.drop_zero, d8, if_true]
                  | refine idxO_intro (by decide) (by rw [hl3]; decide) ?_
                  | (refine eltA_intro g1 ?_; simp only [encI])
                  | (refine eltA_intro g2 ?_; simp only [encI])
                  | refine bs_intro zr53 (by decide) (by decide) rfl rfl (by simp [solid, AV.cells]) ?_
                  | refine app_sl Tryz.underlying51 (by simp [AV.cells]) (by simp only [List.length_map, List.length_cons, List.length_nil]; omega) ?_
                  | refine tree_alt ?_ ?_
              · rintro s h2 ⟨rfl, e5, e1, e17, e18, e19⟩
                simp -dsimp only [Vm.G, List.lookup, Nat.reduceAdd, Nat.reduceBEq, Int.reduceBNe, Int.reduceBEq, Nat.reduceLeDiff, q75, e5, e1, e17, e18, e19]
                refine kept_intro ⟨l.length - (i + 1), by omega, _, le_mk [(1, .v (.int .i64 year)), (5, .own true 53 4 ((allB year (l.take (i + 1))).map lnAv)), (17, .own true 68 2 (l.map kvAv)), (18, .v (.int .i64 l.length)), (19, .v (.int .i64 (i + 1 : Nat)))] ?_, i + 1, by omega, rfl, rfl⟩
                simp only [List.forall_mem_cons, List.not_mem_nil, false_imp_iff, implies_true, and_true, hw, e5, e1, e17, e18, e19]
                try simp -dsimp only [Vm.G, List.lookup, Nat.reduceAdd, Nat.reduceBEq, Int.reduceBNe, Int.reduceBEq, Nat.reduceLeDiff, q75, hw, e5, e1, e17, e18, e19]
                repeat' first | exact Fg.refl _ | exact Fg.nil _ _ _ (by decide) | refine And.intro ?_ ?_
          · have c3 : ((l'.length : Int) == 3) = false := by simp; omega
            have e0 : balOf year (k, v) = none := by
              rw [e0]
              split
              · rename_i h2; cases h2; exact absurd rfl d3
              · rfl
            rw [e0] at est
            simp -dsimp only [Vm.G, List.lookup, Nat.reduceAdd, Nat.reduceBEq, Int.reduceBNe, Int.reduceBEq, Nat.reduceLeDiff, q75, c3]
            refine kept_intro ⟨l.length - (i + 1), by omega, _, le_mk [(1, .v (.int .i64 year)), (5, .own true 53 4 ((allB year (l.take (i + 1))).map lnAv)), (17, .own true 68 2 (l.map kvAv)), (18, .v (.int .i64 l.length)), (19, .v (.int .i64 (i + 1 : Nat)))] ?_, i + 1, by omega, rfl, rfl⟩
            simp only [List.forall_mem_cons, List.not_mem_nil, false_imp_iff, implies_true, and_true, hw, est, Option.toList, List.append_nil]
            try simp -dsimp only [Vm.G, List.lookup, Nat.reduceAdd, Nat.reduceBEq, Int.reduceBNe, Int.reduceBEq, Nat.reduceLeDiff, q75, hw, est, Option.toList, List.append_nil]
            repeat' first | exact Fg.refl _ | exact Fg.nil _ _ _ (by decide) | refine And.intro ?_ ?_
    · have hge : ¬ i < l.length := by have := of_decide_eq_false hcc; omega
      simp -dsimp only [Vm.G, List.lookup, Nat.reduceAdd, Nat.reduceBEq, Int.reduceBNe, Int.reduceBEq, Nat.reduceLeDiff, q75]
      rw [List.take_of_length_le (by omega)]
      exact hq l h' hsc hln hV1 hs1
end Go.Proofs.Lx
/- Documents, pre-encumbrances: docs.Put, pre. -/
set_option linter.unusedSimpArgs false
set_option linter.unusedVariables false
namespace Go.Proofs.Lx
open Go.Vm
attribute [local irreducible] awpArr awpBin awpMake awpAppend awpCvX awpStrOf awpBinX awpSlice awpBS awpStore awpAlloc awpCopy awpIndex awpDraw awpIdxX awpFa awpField awpLookup awpUpdate awpDelete awpClear awpRange awpNext awpEntry awpBuild awpClearS awpIdxL awpTree appB awpIdxO eltA treeA
structure Dl where
  node : Int
  orig : Int
  liq : Int
  can : Int
def Dl.ok (x : Dl) : Prop := I64 x.node ∧ I64 x.orig ∧ I64 x.liq ∧ I64 x.can
structure Dc where
  id : Int
  kind : Int
  year : Int
  frm : Int
  lines : Int
def Dc.ok (d : Dc) : Prop := I64 d.id ∧ I64 d.kind ∧ I64 d.year ∧ I64 d.frm ∧ I64 d.lines
def dlK (id i : Int) : List UInt8 := keyOf 76 [id, i]
def dlV (x : Dl) : List UInt8 := packOf [x.node, x.orig, x.liq, x.can]
def dcK (id : Int) : List UInt8 := keyOf 68 [id]
def dcV (d : Dc) : List UInt8 := packOf [d.kind, d.year, d.frm, d.lines]
def dsetSpec : Vm.Spec := fun args h Q => ∃ (V : VId) (f : Fun) (k v : List UInt8), args = [.agg [.ptr V.iv 0], .agg [.sl 1 (k.map encB), .sl 1 (v.map encB)]] ∧ rightKV k v = true ∧ isView h V f ∧ ∀ h', isView h' V (upd f k (some v)) → Same h h' [V.ic] → Q (.v (.int .i64 0)) h'
/-- A document's lines, put. -/
def putLines (id : Int) : Nat → List Dl → Fun → Fun
  | _, [], f => f
  | i, x :: r, f => putLines id (i + 1) r (upd f (dlK id i) (some (dlV x)))
def docsF (f : Fun) (id : Int) (d : Dc) (l : List Dl) : Fun := upd (putLines id 0 l (upd f (seqKey 2) (some (be 8 id)))) (dcK id) (some (dcV { d with id := id, lines := l.length }))
def docsPut (f : Fun) (d : Dc) (l : List Dl) : Fun × Int × Int :=
  if l.length = 0 ∨ 6 < l.length then (f, 0, 1)
  else if readOf f (seqKey 2) < 0 ∨ 4294967294 < readOf f (seqKey 2) then (f, 0, 9)
  else (docsF f (readOf f (seqKey 2) + 1) d l, readOf f (seqKey 2) + 1, 0)
/-- Lines' nodes, charged. -/
def chargeL (year : Int) : List Dl → Fun → Bool → Fun × Bool × Int
  | [], f, w => (f, w, 0)
  | x :: r, f, w => if (chargeOf f year x.node ⟨x.orig, 0, 0⟩).2.2 ≠ 0 then ((chargeOf f year x.node ⟨x.orig, 0, 0⟩).1, false, (chargeOf f year x.node ⟨x.orig, 0, 0⟩).2.2)
    else chargeL year r (chargeOf f year x.node ⟨x.orig, 0, 0⟩).1 (w || (chargeOf f year x.node ⟨x.orig, 0, 0⟩).2.1)
attribute [local irreducible] chargeOf chargeL docsPut
def Ln.ok (x : Ln) : Prop := I64 x.fund ∧ I64 x.obj ∧ I64 x.node ∧ I64 x.amt
end Go.Proofs.Lx
/- A view committed, or forgotten: what lies beneath it. -/
set_option linter.unusedSimpArgs false
set_option linter.unusedVariables false
namespace Go.Proofs.Lx
open Go.Vm
attribute [local irreducible] awpArr awpBin awpMake awpAppend awpCvX awpStrOf awpBinX awpSlice awpBS awpStore awpAlloc awpCopy awpIndex awpDraw awpIdxX awpFa awpField awpLookup awpUpdate awpDelete awpClear awpRange awpNext awpEntry awpBuild awpClearS awpIdxL awpTree appB awpIdxO eltA treeA
def memOf (mem : List Ent) (k : List UInt8) : Option (List UInt8) := (mget (strK k) mem).map fun e => bytesOf e.val
/-- What lies beneath a view in memory; beneath the reference's. -/
def memV (h : Heap) (V : VId) (g : Fun) : Prop := ∃ mem clk, h[V.im]? = some (.map mem clk) ∧ (∀ k, g k = memOf mem k) ∧ mem.length ≤ g.n
def wasR (h : Heap) (R : RId) (g : Fun) : Prop := ∃ lw : List KV, h[R.iw]? = some (tabObj lw) ∧ TabIs g lw ∧ lw.length ≤ g.n ∧ ∀ p ∈ lw, p.1.length ≤ 32 ∧ p.2.length ≤ 120
def BothW (h : Heap) (V : VId) (R : RId) (f g : Fun) : Prop := Both h V R f ∧ memV h V g ∧ wasR h R g
theorem memV.same {h h' : Heap} {V : VId} {g : Fun} {fp : List Nat} (hm : memV h V g) (hs : Same h h' fp) (hd : V.im ∉ fp) : memV h' V g := by
  obtain ⟨mem, clk, h1, h2⟩ := hm
  exact ⟨mem, clk, hs.get h1 hd, h2⟩
theorem wasR.same {h h' : Heap} {R : RId} {g : Fun} {fp : List Nat} (hw : wasR h R g) (hs : Same h h' fp) (hd : R.iw ∉ fp) : wasR h' R g := by
  obtain ⟨lw, h1, h2⟩ := hw
  exact ⟨lw, hs.get h1 hd, h2⟩
theorem isView.ne {h : Heap} {V : VId} {f : Fun} (hV : isView h V f) : V.iv ≠ V.ic ∧ V.iv ≠ V.im ∧ V.ic ≠ V.im := by
  obtain ⟨_, _, _, _, _, _, _, h4, _⟩ := hV
  exact h4
theorem isRef.ne {h : Heap} {R : RId} {f : Fun} (hR : isRef h R f) : R.iw ≠ R.inn ∧ R.iw ≠ R.it := by
  obtain ⟨_, _, _, _, _, _, _, h5, _⟩ := hR
  exact h5.2.2.2
theorem BothW.step {h h' h2 : Heap} {V : VId} {R : RId} {f f' g : Fun} (hB : BothW h V R f g) (hV : isView h' V f') (hs : Same h h' [V.ic]) (hR : isRef h2 R f') (hs2 : Same h' h2 (rFoot R)) : BothW h2 V R f' g := by
  obtain ⟨hB, hm, hw⟩ := hB
  refine ⟨hB.ref hV hR hs2, (hm.same hs ?_).same hs2 ?_, (hw.same hs ?_).same hs2 ?_⟩
  · have := hB.1.ne.2.2
    simp [Ne.symm this]
  · have := hB.2.2 V.im (by simp)
    simp [rFoot] at this ⊢
    exact ⟨this.2.2.1, this.2.2.2⟩
  · have := hB.2.2 V.ic (by simp)
    simp at this ⊢
    exact fun e => this.2.1 e.symm
  · have := hB.2.1.ne
    simp [rFoot]
    exact this
theorem BothW.quiet {h h' : Heap} {V : VId} {R : RId} {f g : Fun} (hB : BothW h V R f g) (hV : isView h' V f) (hs : Same h h' []) : BothW h' V R f g :=
  ⟨hB.1.quiet hV hs, hB.2.1.same hs (by simp), hB.2.2.same hs (by simp)⟩
theorem mdel_sub (k : Value) : ∀ es : List Ent, (mdel k es).Sublist es
  | [] => .slnil
  | e :: es => by
    unfold mdel
    split
    · exact List.sublist_cons_self ..
    · exact (mdel_sub k es).cons_cons e
theorem mget_cons (k : List UInt8) (e : Ent) (es : List Ent) {a : List UInt8} (he : e.key = strK a) : mget (strK k) (e :: es) = if k = a then some e else mget (strK k) es := by
  unfold mget
  rw [List.find?_cons, he, keyEq_str]
  by_cases h : k = a
  · rw [if_pos h, h]; simp
  · have : (k == a) = false := by simpa using h
    rw [if_neg h, this]
theorem mget_mdel (q k : List UInt8) : ∀ {es : List Ent}, (∀ e ∈ es, ∃ k, e.key = strK k) → (es.map kOf).Nodup → mget (strK k) (mdel (strK q) es) = if k = q then none else mget (strK k) es
  | [], _, _ => by simp [mdel, mget]
  | e :: es, hk, hn => by
    obtain ⟨a, ha⟩ := hk e (List.mem_cons_self ..)
    have hk' : ∀ e ∈ es, ∃ k, e.key = strK k := fun e he => hk e (List.mem_cons_of_mem _ he)
    rw [List.map_cons, List.nodup_cons] at hn
    rw [kOf_eq ha] at hn
    unfold mdel
    rw [ha, keyEq_str]
    by_cases hq : q = a
    · subst hq
      simp only [beq_self_eq_true, if_true]
      rw [mget_cons k e es ha]
      by_cases hkq : k = q
      · rw [if_pos hkq, hkq]
        cases hg : mget (strK q) es with
        | none => rfl
        | some x => exact absurd ((mget_some hk' hn.2).1 (by rw [hg]; rfl)) hn.1
      · rw [if_neg hkq, if_neg hkq]
    · have h2 : (q == a) = false := by simpa using hq
      simp only [h2, Bool.false_eq_true, if_false]
      rw [mget_cons k e _ ha, mget_cons k e es ha, mget_mdel q k hk' hn.2]
      by_cases hka : k = a
      · have : ¬ k = q := fun e => hq (e ▸ hka)
        rw [if_pos hka, if_neg this, if_pos hka]
      · rw [if_neg hka, if_neg hka]
theorem Born.del {q : Value} {c : Nat} {es : List Ent} (h : Born es c) : Born (mdel q es) c :=
  ⟨⟨h.1.1.sublist ((mdel_sub q es).map _), h.1.2.sublist ((mdel_sub q es).map _)⟩, fun e he => h.2 e ((mdel_sub q es).mem he)⟩
/-- Changes 'done' came about over 'mem0'. -/
structure Kept (mem0 done mem : List Ent) (clk : Nat) : Prop where
  wf : ∀ e ∈ mem, WfM e
  born : Born mem clk
  len : mem.length ≤ mem0.length + done.length
  short : ∀ e ∈ mem, (kOf e).length ≤ 32
  now : ∀ k, memOf mem k = nowOf done mem0 k
theorem nowOf_snoc {done mem0 : List Ent} {e : Ent} {q : List UInt8} (hq : e.key = strK q) (hk : ∀ e ∈ done, ∃ k, e.key = strK k) (hn : ((done ++ [e]).map kOf).Nodup) (k : List UInt8) :
    nowOf (done ++ [e]) mem0 k = if k = q then shapeOf e.val else nowOf done mem0 k := by
  have h1 : mget (strK k) (done ++ [e]) = (mget (strK k) done).or (mget (strK k) [e]) := by unfold mget; rw [List.find?_append]
  have h2 := mget_cons k e [] hq
  rw [List.map_append, List.nodup_append] at hn
  have hqd : q ∉ done.map kOf := fun hm => hn.2.2 q hm q (by simp [kOf_eq hq]) rfl
  unfold nowOf
  rw [h1, h2]
  by_cases hkq : k = q
  · subst hkq
    have : mget (strK k) done = none := by
      cases hg : mget (strK k) done with
      | none => rfl
      | some x => exact absurd ((mget_some hk hn.1).1 (by rw [hg]; rfl)) hqd
    rw [this]; simp
  · rw [if_neg hkq, if_neg hkq]
    have : mget (strK k) ([] : List Ent) = none := rfl
    rw [this, Option.or_none]
theorem Kept.del {mem0 done mem : List Ent} {clk : Nat} (h : Kept mem0 done mem clk) {e : Ent} {q : List UInt8} (hq : e.key = strK q) (hs : shapeOf e.val = none) (hk : ∀ e ∈ done, ∃ k, e.key = strK k) (hn : ((done ++ [e]).map kOf).Nodup) :
    Kept mem0 (done ++ [e]) (mdel (strK q) mem) clk := by
  refine ⟨fun x hx => h.wf x ((mdel_sub _ _).mem hx), h.born.del, ?_, fun x hx => h.short x ((mdel_sub _ _).mem hx), fun k => ?_⟩
  · have := (mdel_sub (strK q) mem).length_le
    have := h.len
    rw [List.length_append]; omega
  · rw [nowOf_snoc hq hk hn k, hs, ← h.now k]
    unfold memOf
    rw [mget_mdel q k (fun e he => (h.wf e he).1) h.born.1.2]
    split <;> rfl
theorem Kept.put {mem0 done mem : List Ent} {clk : Nat} (h : Kept mem0 done mem clk) {e : Ent} {q l : List UInt8} {x : AV} (hq : e.key = strK q) (hs : shapeOf e.val = some l) (hx : isB x l) (hl : l.length ≤ 120) (hq32 : q.length ≤ 32) (hk : ∀ e ∈ done, ∃ k, e.key = strK k) (hn : ((done ++ [e]).map kOf).Nodup) :
    Kept mem0 (done ++ [e]) (mput (strK q) x clk mem) (mclk (strK q) mem clk) := by
  have hkm : ∀ e ∈ mem, ∃ k, e.key = strK k := fun e he => (h.wf e he).1
  refine ⟨fun y hy => ?_, h.born.put hkm, ?_, fun y hy => ?_, fun k => ?_⟩
  · rcases mput_mem hy with hy | ⟨h1, h2⟩
    · exact h.wf y hy
    · exact ⟨⟨q, h1⟩, l, by rw [h2]; exact hx, hl⟩
  · have := mput_length (k := strK q) (v := x) (c := clk) mem
    have := h.len
    rw [List.length_append]
    simp only [List.length_cons, List.length_nil]
    omega
  · rcases mput_mem hy with hy | ⟨h1, h2⟩
    · exact h.short y hy
    · rw [kOf_eq h1]; exact hq32
  · rw [nowOf_snoc hq hk hn k, hs, ← h.now k]
    unfold memOf
    have hg := mget_mput (v := x) (c := clk) q k hkm
    have e1 : ∀ o : Option Ent, (o.map fun e => bytesOf e.val) = (o.map Ent.val).map bytesOf := fun o => by cases o <;> rfl
    rw [e1, hg]
    by_cases hkq : k = q
    · rw [if_pos hkq, if_pos hkq, Option.map_some, bytesOf_isB hx]
    · rw [if_neg hkq, if_neg hkq, ← e1]
theorem nowOf_perm {a b mem : List Ent} (h : a.Perm b) (hk : ∀ e ∈ a, ∃ k, e.key = strK k) (hn : (a.map kOf).Nodup) (k : List UInt8) : nowOf a mem k = nowOf b mem k := by
  have hk2 : ∀ e ∈ b, ∃ k, e.key = strK k := fun e he => hk e (h.mem_iff.2 he)
  have hn2 : (b.map kOf).Nodup := ((h.map kOf).nodup_iff).1 hn
  have : mget (strK k) a = mget (strK k) b := by
    cases hg : mget (strK k) b with
    | some e =>
      obtain ⟨h1, h2⟩ := (mget_iff hk2 hn2).1 hg
      exact (mget_iff hk hn).2 ⟨h.mem_iff.2 h1, h2⟩
    | none =>
      cases hg2 : mget (strK k) a with
      | none => rfl
      | some e =>
        obtain ⟨h1, h2⟩ := (mget_iff hk hn).1 hg2
        have := (mget_iff hk2 hn2).2 ⟨h.mem_iff.1 h1, h2⟩
        rw [hg] at this; cases this
  unfold nowOf
  rw [this]
end Go.Proofs.Lx
/- Strings and numbers sorted, in place: by the kit's laws on Go's own sort. -/
set_option linter.unusedSimpArgs false
set_option linter.unusedVariables false
namespace Go.Proofs.Lx
open Go.Vm Go.RowKit
/-- The world behind a sort of one-cell elements. -/
theorem putRow_heap {α : Type} [Inhabited α] (enc : α → Value) (w : World) (b n : Nat) (d : Array α) (os : Array Obj) :
    (∀ k, k < w.heap.size → k ≠ b → (Sort.grow (Sort.putRow enc (Sort.ahead w n) b 0 d) os).heap[k]? = w.heap[k]?) ∧ w.heap.size ≤ (Sort.grow (Sort.putRow enc (Sort.ahead w n) b 0 d) os).heap.size ∧
      ∀ vs e fr, w.heap[b]? = some (.cells vs e fr) → (Sort.grow (Sort.putRow enc (Sort.ahead w n) b 0 d) os).heap[b]? = some (.cells (Sort.putCells enc 0 d vs) e fr) := by
  have hs : (Sort.putRow enc (Sort.ahead w n) b 0 d).heap.size = w.heap.size := by simp [Sort.putRow, Sort.mapBlock, Sort.ahead]
  have hg : ∀ k, k < w.heap.size → (Sort.grow (Sort.putRow enc (Sort.ahead w n) b 0 d) os).heap[k]? = (w.heap.modify b (Sort.onCells (Sort.putCells enc 0 d)))[k]? := fun k hk => by
    show ((Sort.putRow enc (Sort.ahead w n) b 0 d).heap ++ os)[k]? = _
    rw [Array.getElem?_append_left (by rw [hs]; exact hk)]; rfl
  refine ⟨fun k hk hne => ?_, ?_, fun vs e fr hb => ?_⟩
  · rw [hg k hk, Array.getElem?_modify, if_neg (fun e => hne e.symm)]
  · show w.heap.size ≤ ((Sort.putRow enc (Sort.ahead w n) b 0 d).heap ++ os).size
    rw [Array.size_append, hs]; omega
  · rw [hg b (lt_of_heap hb), Array.getElem?_modify, if_pos rfl, hb]; rfl
def vAv {α : Type} (enc : α → Value) (x : α) : AV := .v (enc x)
theorem flat_v {α : Type} (enc : α → Value) (l : List α) : flat (l.map (vAv enc)) = l.map (vAv enc) := by
  unfold flat
  induction l with
  | nil => rfl
  | cons x r ih => rw [List.map_cons, List.flatMap_cons, ih]; rfl
def sortVSpec {α : Type} (enc : α → Value) (R : List α → Prop) : Vm.Spec := fun args h Q => ∃ (l : List α) (h0 : Heap) (c e : Nat), args = [.osl h0.length 0 l.length c] ∧ h = h0 ++ [.row e (c * 1) (flat (l.map (vAv enc)))] ∧ l.length < 4611686018427387904 ∧ l.length ≤ c ∧
  ∀ l' : List α, l'.Perm l → R l' → Q (.tup []) (h0 ++ [.row e (c * 1) (flat (l'.map (vAv enc)))])
theorem does_sortV {α : Type} [Inhabited α] {f : FuncId} {R : List α → Prop} (enc : α → Value) (hp : ∀ x, plain (enc x) = true) (h1 : ∀ x, (enc x).oneCell' = true) (hcall : Callable Tryz.prog f)
    (key : ∀ (blk cap : Nat) (l : List α) (w : World), Sort.Holds enc w blk 0 l.toArray → blk < w.heap.size → l.length < 4611686018427387904 →
      Calls Tryz.prog f #[.slice (some ⟨blk, 0, none⟩) l.length cap] w fun e w' => e = .returned (.tuple #[]) ∧ ∃ (n : Nat) (os : Array Obj) (l' : List α), (l'.Perm l ∧ R l') ∧ w' = Sort.grow (Sort.putRow enc (Sort.ahead w n) blk 0 l'.toArray) os) :
    Does Tryz.prog f (sortVSpec enc R) := by
  refine ⟨hcall, ?_⟩
  rintro args h Q ⟨l, h0, c, e, rfl, rfl, hln, hlc, hq⟩ w g vs hvs hrep hh hfr hlaid
  have hm : h0.length < g.n := by rw [← hh.n]; simp
  generalize hb : g.loc h0.length = b
  have hrow : RowE w g e (c * 1) (flat (l.map (vAv enc))) b := by
    have : ObjRep w g (.row e (c * 1) (flat (l.map (vAv enc)))) (g.loc h0.length) := hh.obj h0.length _ (heap_last _ _)
    rw [hb] at this; exact this
  have hblt : b < w.heap.size := by rw [← hb]; exact hh.lt _ hm
  have hv0 : vs.getD 0 undef = .slice (some ⟨b, 0, none⟩) l.length c := by
    have := hrep 0 _ rfl
    generalize vs.getD 0 undef = v at this
    cases this with | osl => rw [hb]
  have hvs2 : vs = #[.slice (some ⟨b, 0, none⟩) l.length c] := by
    have h2 : vs.size = 1 := hvs
    apply Array.ext
    · simpa using h2
    · intro i hi1 hi2
      have : i = 0 := by omega
      subst this
      simpa [Array.getD, h2] using hv0
  subst hvs2
  obtain ⟨cur, a1, a2, a3, a4, a5, a6⟩ := hrow
  have hfl : (flat (l.map (vAv enc))).length = l.length := by rw [flat_v, List.length_map]
  have hcur : ∀ j (hj : j < l.length), cur.getD j undef = enc l[j] := fun j hj => by
    have := a6 j (vAv enc l[j]) (by rw [flat_v, List.getElem?_map, List.getElem?_eq_getElem hj]; rfl)
    exact (rep_v this).1
  have hH : Sort.Holds enc w b 0 l.toArray := fun j hj => by
    have hj : j < l.length := by simpa using hj
    have hjc : j < cur.size := by omega
    rw [Nat.zero_add]
    refine ⟨?_, ?_⟩
    · rw [cell_of_row w b j cur e (0, 0) a1]
      have := hcur j hj
      have e2 : (l.toArray)[j]! = l[j] := by rw [getElem!_pos l.toArray j (by simpa using hj)]; simp
      rw [e2, ← this]
      simp [Array.getD, hjc]
    · simp [World.frozen?, a1]
  refine (key b c l w hH hblt hln).mono ?_
  rintro e' w' ⟨rfl, n, os, l', ⟨hperm, hR⟩, rfl⟩
  obtain ⟨q1, q2, q3⟩ := putRow_heap enc w b n l'.toArray os
  have hlen : l'.length = l.length := hperm.length_eq
  generalize hW : Sort.grow (Sort.putRow enc (Sort.ahead w n) b 0 l'.toArray) os = w' at q1 q2 q3
  have hos : w'.os = w.os ∧ w'.tape = w.tape ∧ w'.output = w.output := by rw [← hW]; exact ⟨rfl, rfl, rfl⟩
  have hk : Keeps w g w' g := ⟨fun _ => Nat.le_refl _, fun k j v hj hv => by
    have hkb : k ≠ b := fun e => by rw [e, a4] at hj; omega
    have hkl : k < w.heap.size := by
      rcases Nat.lt_or_ge k w.heap.size with h | h
      · exact h
      · rw [hfr k h] at hj; omega
    rw [World.cell?_of_block (a := ⟨k, j, none⟩) (q1 k hkl hkb)]; exact hv, Nat.le_refl _, fun _ _ => rfl⟩
  have hrow' : RowE w' g e (c * 1) (flat (l'.map (vAv enc))) b := by
    have hnew : ∀ j (hj : j < l'.length), (Sort.putCells enc 0 l'.toArray cur).getD j undef = enc l'[j] := fun j hj => by
      have hjc : j < cur.size := by omega
      have e2 : (l'.toArray)[j]! = l'[j] := by rw [getElem!_pos l'.toArray j (by simpa using hj)]; simp
      rw [← e2]
      simp only [Sort.putCells]
      simp [Array.getD, hjc, hj]
    refine ⟨_, q3 cur e (0, 0) a1, by simp [Sort.putCells, a2], by rw [flat_v, List.length_map]; omega, a4, fun j hj => ?_, fun j u hu => ?_⟩
    · rw [flat_v, List.length_map] at hj
      rw [hnew j hj]; exact h1 _
    · rw [flat_v, List.getElem?_map] at hu
      have hj : j < l'.length := by
        rcases Nat.lt_or_ge j l'.length with h | h
        · exact h
        · rw [List.getElem?_eq_none h] at hu; cases hu
      rw [List.getElem?_eq_getElem hj] at hu
      cases hu
      rw [hnew j hj]
      exact .v (hp _)
  refine ⟨.tup [], h0 ++ [.row e (c * 1) (flat (l'.map (vAv enc)))], g, .tuple #[], hq l' hperm hR, rfl, .tup rfl (fun j u hu => by simp at hu), ?_, ?_, Nat.le_refl _, fun _ _ => rfl, fun _ _ => rfl, fun i hi h1 => by omega, fun k hk' => hfr k (Nat.le_trans q2 hk')⟩
  · refine ⟨by rw [← hh.n]; simp, fun i hi => Nat.lt_of_lt_of_le (hh.lt i hi) q2, hh.inj, fun i o ho => ?_⟩
    rcases Nat.lt_or_ge i h0.length with hi | hi
    · rw [List.getElem?_append_left hi] at ho
      have hig : i < g.n := by omega
      have hne : g.loc i ≠ b := fun e => by
        have := hh.inj i h0.length hig hm (e.trans hb.symm)
        omega
      exact (hh.obj i o (by rw [List.getElem?_append_left hi]; exact ho)).keepAt hk ⟨q1 _ (hh.lt i hig) hne, rfl⟩
    · have hie : i = h0.length := by
        rcases Nat.lt_or_ge i (h0.length + 1) with h | h
        · omega
        · rw [List.getElem?_eq_none (by simp; omega)] at ho; cases ho
      subst hie
      rw [heap_last] at ho
      cases ho
      show RowE _ _ _ _ _ (g.loc h0.length)
      rw [hb]; exact hrow'
  · exact ⟨hos.1, hos.2.1, hos.2.2, q2, fun k hk' hno => q1 k hk' fun e => hno _ hm (hb.trans e.symm)⟩
def sortVNil : Vm.Spec := fun args h Q => args = [.v (.slice none 0 0)] ∧ Q (.tup []) h
theorem does_sortVNil {f : FuncId} (hcall : Callable Tryz.prog f) (key : ∀ w : World, Calls Tryz.prog f #[.slice none 0 0] w fun e w' => e = .returned (.tuple #[]) ∧ w' = w) : Does Tryz.prog f sortVNil := by
  refine ⟨hcall, ?_⟩
  rintro args h Q ⟨rfl, hq⟩ w g vs hvs hrep hh hfr hlaid
  have hv0 : vs.getD 0 undef = .slice none 0 0 := (rep_v (hrep 0 _ rfl)).1
  have hvs2 : vs = #[.slice none 0 0] := by
    have h2 : vs.size = 1 := hvs
    apply Array.ext
    · simpa using h2
    · intro i hi1 hi2
      have : i = 0 := by omega
      subst this
      simpa [Array.getD, h2] using hv0
  rw [hvs2]
  refine (key w).mono ?_
  rintro e' w' ⟨rfl, rfl⟩
  exact ⟨.tup [], h, g, .tuple #[], hq, rfl, .tup rfl (fun j u hu => by simp at hu), hh, ⟨rfl, rfl, rfl, Nat.le_refl _, fun _ _ _ => rfl⟩, Nat.le_refl _, fun _ _ => rfl, fun _ _ => rfl, fun i hi h1 => by omega, hfr⟩
theorem does_sortS : Does Tryz.prog 57 (orS (sortVSpec strK fun _ => True) sortVNil) :=
  have hc : Callable Tryz.prog 57 := ⟨Tryz.f57, Tryz.func57, by kernel_rfl, by decide +kernel⟩
  does_or (does_sortV strK (fun _ => rfl) (fun _ => rfl) hc fun blk cap l w hH hb hl => (Any.slices_Sort_string Tryz.sortStr blk 0 cap l w hH hb hl).mono fun e w' ⟨h1, n, os, h2⟩ => ⟨h1, n, os, _, ⟨List.mergeSort_perm .., trivial⟩, h2⟩)
    (does_sortVNil hc fun w => Any.slices_Sort_string_none Tryz.sortStr none 0 w)
end Go.Proofs.Lx
/- A view's changes; what is committed, what is forgotten: the walks. -/
set_option linter.unusedSimpArgs false
set_option linter.unusedVariables false
namespace Go.Proofs.Lx
open Go.Vm
attribute [local irreducible] awpArr awpBin awpMake awpAppend awpCvX awpStrOf awpBinX awpSlice awpBS awpStore awpAlloc awpCopy awpIndex awpDraw awpIdxX awpFa awpField awpLookup awpUpdate awpDelete awpClear awpRange awpNext awpEntry awpBuild awpClearS awpIdxL awpTree appB awpIdxO eltA treeA
def keysSpec : Vm.Spec := fun args h Q => ∃ (ic : Nat) (chg : List Ent) (clk : Nat), args = [.mp ic] ∧ h[ic]? = some (.map chg clk) ∧ (∀ e ∈ chg, WfC e) ∧ Born chg clk ∧ chg.length ≤ 1073741824 ∧ (∀ e ∈ chg, (kOf e).length ≤ 32) ∧
  ∀ l : List (List UInt8), l.length ≤ chg.length → (∀ k ∈ l, k.length ≤ 32) → Q (.own true 9 1 (l.map (vAv strK))) h
set_option maxRecDepth 20000 in
set_option maxHeartbeats 1000000 in
theorem does_keys : Does Tryz.prog 26 keysSpec := by
  refine does_of_awp (good_cons does_sortS good_nil) Tryz.func26 rfl (by decide +kernel) (by decide +kernel) ?_
  rintro args h Q ⟨ic, chg, clk, rfl, g0, hw, hb, hn, hk32, hq⟩
  refine ⟨by simp [Tryz.f26], ?_⟩
  rw [awpFunc_some (by rfl)]
  simp -dsimp only [Vm.G, List.lookup, Nat.reduceAdd, Nat.reduceBEq, Int.reduceBNe, Int.reduceBEq, Nat.reduceLeDiff, q26]
  refine range_intro mt25 chg clk g0 ?_
  simp -dsimp only [Vm.G, List.lookup, Nat.reduceAdd, Nat.reduceBEq, Int.reduceBNe, Int.reduceBEq, Nat.reduceLeDiff, q26]
  refine awp_loop (fun m s h' => ∃ done : List Ent, m = (leftE chg (done.map (·.born))).length ∧ done.length + m ≤ chg.length ∧ h' = h ∧ (∀ d ∈ done, d ∈ chg) ∧ (done.map (·.born)).Nodup ∧ s = mk [(3, .own true 9 1 (((done).map kOf).map (vAv strK))), (6, .iter ic clk ((done).map (·.born)) clk)])
    chg.length _ (le_mk _ ?_) ⟨[], (congrArg List.length (List.filter_eq_self.2 fun _ _ => rfl)).symm, by simp, rfl, by simp, by simp, rfl⟩ ?_
  · simp only [List.forall_mem_cons, List.not_mem_nil, false_imp_iff, implies_true, and_true]
    try simp -dsimp only [Vm.G, List.lookup, Nat.reduceAdd, Nat.reduceBEq, Int.reduceBNe, Int.reduceBEq, Nat.reduceLeDiff, q26]
    repeat' first | exact Fg.refl _ | exact Fg.nil _ _ _ (by decide) | refine And.intro ?_ ?_
  · rintro m s h' ⟨done, rfl, hlen, rfl, hd, hdn, rfl⟩
    simp -dsimp only [Vm.G, List.lookup, Nat.reduceAdd, Nat.reduceBEq, Int.reduceBNe, Int.reduceBEq, Nat.reduceLeDiff, q26]
    refine next_intro chg clk g0 (fun e he => hb.2 e he) (Nat.le_refl _) (fun hlf => ?_) (fun e he => ?_)
    · have hD : done.Perm chg := seen_all hb.1.1 hd hdn hlf
      have hdl := hD.length_eq
      simp -dsimp only [Vm.G, List.lookup, Nat.reduceAdd, Nat.reduceBEq, Int.reduceBNe, Int.reduceBEq, Nat.reduceLeDiff, q26]
      refine call_in _ _ _ ?_
      simp -dsimp only [Vm.G, List.lookup, Nat.reduceAdd, Nat.reduceBEq, Int.reduceBNe, Int.reduceBEq, Nat.reduceLeDiff, q26, callI_eq, ownSl_own, ownSl_alias]
      refine callI_tup (S := orS (sortVSpec strK fun _ => True) sortVNil) (fun xs' => ∃ l' : List (List UInt8), xs' = l'.map (vAv strK) ∧ l'.Perm (done.map kOf)) rfl
        (fun xs' hx => ?_) (fun hx => ⟨?_, fun Q' hq' => .inr ⟨rfl, hq'⟩⟩) (fun c hc Q' hq' => .inl ⟨done.map kOf, _, c, 9, by rw [List.length_map], rfl, by rw [List.length_map]; omega, by rw [List.length_map] at hc; exact hc, fun l' hp _ => hq' _ _ ⟨l', rfl, hp⟩ ?_⟩) (fun xs' hx => ?_)
      · obtain ⟨l', rfl, hp⟩ := hx
        exact ⟨fun x hx => (hp.map _).mem_iff.1 hx, by rw [List.length_map, List.length_map, hp.length_eq]⟩
      · have hnil : done.map kOf = [] := List.map_eq_nil_iff.1 hx
        exact ⟨[], rfl, by rw [hnil]⟩
      · rw [List.take_of_length_le]
        rw [flat_v, List.length_map, Nat.mul_one]
        exact Nat.le_refl _
      · obtain ⟨l', rfl, hp⟩ := hx
        have hll := hp.length_eq
        rw [List.length_map] at hll
        have hks : ∀ k ∈ l', k.length ≤ 32 := fun k hk => by
          obtain ⟨e, he, rfl⟩ := List.mem_map.1 (hp.mem_iff.1 hk)
          exact hk32 e (hd e he)
        simp -dsimp only [Vm.G, List.lookup, Nat.reduceAdd, Nat.reduceBEq, Int.reduceBNe, Int.reduceBEq, Nat.reduceLeDiff, q26]
        exact hq l' (by omega) hks
    · obtain ⟨hem, heb⟩ := left_mem he
      obtain ⟨⟨k, hk⟩, x, l, b, hx, hl, hev⟩ := hw e hem
      obtain ⟨hd2, hdn2⟩ := done_more he hd hdn
      have hless := left_less he
      have emap : (done ++ [e]).map (·.born) = done.map (·.born) ++ [e.born] := by simp
      have hkk := kOf_eq hk
      simp -dsimp only [Vm.G, List.lookup, Nat.reduceAdd, Nat.reduceBEq, Int.reduceBNe, Int.reduceBEq, Nat.reduceLeDiff, q26]
      refine entry_intro chg clk e g0 (find_born hb.1.1 hem) ?_
      simp only [hk, strK]
      simp -dsimp only [Vm.G, List.lookup, Nat.reduceAdd, Nat.reduceBEq, Int.reduceBNe, Int.reduceBEq, Nat.reduceLeDiff, q26]
      refine bs_intro zr9 (by decide) (by decide) rfl rfl (by simp [solid, AV.cells]) ?_
      simp -dsimp only [Vm.G, List.lookup, Nat.reduceAdd, Nat.reduceBEq, Int.reduceBNe, Int.reduceBEq, Nat.reduceLeDiff, q26]
      refine app_sl Tryz.underlying65 (by simp [AV.cells]) (by simp only [List.length_map, List.length_cons, List.length_nil]; omega) ?_
      simp -dsimp only [Vm.G, List.lookup, Nat.reduceAdd, Nat.reduceBEq, Int.reduceBNe, Int.reduceBEq, Nat.reduceLeDiff, q26]
      refine kept_intro ⟨_, hless, _, le_mk [(3, .own true 9 1 (((done ++ [e]).map kOf).map (vAv strK))), (6, .iter ic clk ((done ++ [e]).map (·.born)) clk)] ?_, done ++ [e], by rw [emap], by rw [List.length_append]; simp only [List.length_cons, List.length_nil]; omega, rfl, hd2, hdn2, rfl⟩
      simp only [List.forall_mem_cons, List.not_mem_nil, false_imp_iff, implies_true, and_true, List.map_append, List.map_cons, List.map_nil, hkk, vAv, strK]
      try simp -dsimp only [Vm.G, List.lookup, Nat.reduceAdd, Nat.reduceBEq, Int.reduceBNe, Int.reduceBEq, Nat.reduceLeDiff, q26, List.map_append, List.map_cons, List.map_nil, hkk, vAv, strK]
      repeat' first | exact Fg.refl _ | exact Fg.nil _ _ _ (by decide) | refine And.intro ?_ ?_
/-- What stood beneath, as bytes that are there. -/
def wasWSpec : Vm.Spec := fun args h Q => ∃ (iv ic im : Nat) (mem : List Ent) (clk : Nat) (k : List UInt8), args = [.ptr iv 0, .sl 1 (k.map encB)] ∧ h[iv]? = some (vobj ic im) ∧ h[im]? = some (.map mem clk) ∧ (∀ e ∈ mem, WfM e) ∧
  ∀ (l : List UInt8) (b : Bool), Q (.tup [.sl 1 (l.map encB), .v (.bool b)]) h
theorem does_wasW : Does Tryz.prog 24 wasWSpec := by
  refine does_vwas.weak.imp ?_
  rintro args h Q ⟨iv, ic, im, mem, clk, k, rfl, h1, h2, hw, hq⟩
  refine ⟨iv, ic, im, mem, clk, k, rfl, h1, h2, hw, fun e he => ?_, fun he => ?_⟩
  · obtain ⟨-, l, hx, -⟩ := hw e (mget_mem he)
    exact ⟨_, .tup (.cons hx.ga GaL.rfl), hq l true⟩
  · exact ⟨_, .tup (.cons (.nil 1) GaL.rfl), hq [] false⟩
theorem lookup_shape {t kt et : TypeId} {P : Program} {id : Nat} {h : Heap} {K : AV → Prop} {z : Value} (hm : MapT P t kt et .string) (hz : (P.info? et).bind (·.zero) = some z) (hcz : cst z = .agg [.v (.slice none 0 0), .v (.bool false)]) (chg : List Ent) (clk : Nat) (hh : h[id]? = some (.map chg clk)) (hw : ∀ e ∈ chg, WfC e) (k : List UInt8)
    (hK : ∀ x l b, isB x l → l.length ≤ 120 → K (.agg [x, .v (.bool b)])) : awpLookup P t (.mp id) (.v (.string ⟨k.toArray⟩)) false h K := by
  refine lookup_intro hm hz chg clk hh trivial (keys_str fun e he => (hw e he).1) (fun e he => ?_) (fun he => ?_)
  · obtain ⟨-, x, l, b, hx, hl, hev⟩ := hw e (mget_mem he)
    show K e.val
    rw [hev]; exact hK x l b hx hl
  · show K (cst z)
    rw [hcz]; exact hK _ [] false (.inr ⟨rfl, rfl⟩) (by simp)
theorem len_snoc {α : Type} {l : List α} {x : α} {i : Nat} (h : l.length ≤ i) : (l ++ [x]).length ≤ i + 1 := by rw [List.length_append, List.length_singleton]; omega
def changesSpec : Vm.Spec := fun args h Q => ∃ (V : VId) (f : Fun), args = [.ptr V.iv 0] ∧ isView h V f ∧ f.n ≤ 536870912 ∧ ∀ (p : List KV) (d : List (List UInt8)), Q (.tup [.sl 2 (p.map kvAv), .sl 1 (d.map fun k => .sl 1 (k.map encB))]) h
set_option maxRecDepth 20000 in
set_option maxHeartbeats 8000000 in
theorem does_changes : Does Tryz.prog 7 changesSpec := by
  refine does_of_awp (good_cons does_vready (good_cons does_keys (good_cons does_wasW (good_cons does_equal (good_cons does_cloneW good_nil))))) Tryz.func7 rfl (by decide +kernel) (by decide +kernel) ?_
  rintro args h Q ⟨V, f, rfl, ⟨chg, clk, mem, clk2, h1, h2, h3, h4, h5, h6, h7, hlen, hk32⟩, hfn, hq⟩
  refine ⟨by simp [Tryz.f7], ?_⟩
  rw [awpFunc_some (by rfl)]
  simp -dsimp only [Vm.G, List.lookup, Nat.reduceAdd, Nat.reduceBEq, Int.reduceBNe, Int.reduceBEq, Nat.reduceLeDiff, q7]
  refine call_one (S := vreadySpec) rfl _ GaL.rfl ⟨V.iv, V.ic, _, rfl, h1, ?_⟩
  simp -dsimp only [Vm.G, List.lookup, Nat.reduceAdd, Nat.reduceBEq, Int.reduceBNe, Int.reduceBEq, Nat.reduceLeDiff, q7, h1]
  refine call_one (S := keysSpec) rfl _ GaL.rfl ⟨V.ic, chg, clk, rfl, h2, h5.1, h6.1, by omega, fun e he => hk32 e (.inl he), fun ks hkl hks32 => ?_⟩
  simp -dsimp only [Vm.G, List.lookup, Nat.reduceAdd, Nat.reduceBEq, Int.reduceBNe, Int.reduceBEq, Nat.reduceLeDiff, q7]
  refine awp_loop (fun m s h' => ∃ (i : Nat) (pu : List KV) (de : List (List UInt8)), i + m = ks.length ∧ h' = h ∧ pu.length ≤ i ∧ de.length ≤ i ∧ s = mk [(0, .ptr V.iv 0), (4, .own true 68 2 ((pu).map kvAv)), (5, .own true 22 1 ((de).map fun k => AV.sl 1 (k.map encB))), (18, .own true 9 1 (ks.map (vAv strK))), (19, .v (.int .i64 ks.length)), (20, .v (.int .i64 (i : Nat)))])
    ks.length _ (le_mk _ ?_) ⟨0, [], [], by omega, rfl, by simp, by simp, rfl⟩ ?_
  · simp only [List.forall_mem_cons, List.not_mem_nil, false_imp_iff, implies_true, and_true]
    try simp -dsimp only [Vm.G, List.lookup, Nat.reduceAdd, Nat.reduceBEq, Int.reduceBNe, Int.reduceBEq, Nat.reduceLeDiff, q7]
    repeat' first | exact Fg.refl _ | exact Fg.nil _ _ _ (by decide) | refine And.intro ?_ ?_
  · rintro m s h' ⟨i, pu, de, hi, rfl, hpu, hde, rfl⟩
    simp -dsimp only [Vm.G, List.lookup, Nat.reduceAdd, Nat.reduceBEq, Int.reduceBNe, Int.reduceBEq, Nat.reduceLeDiff, q7]
    refine cond_intro (fun hcc => ?_) (fun hcc => ?_)
    · have hlt : i < ks.length := by have := of_decide_eq_true hcc; omega
      have hw2 : IntKind.i64.wrap ((i : Int) + 1) = ((i + 1 : Nat) : Int) := by rw [wrap_i64 (by omega) (by omega)]; simp
      have hgi : (ks.map (vAv strK))[i]? = some (vAv strK ks[i]) := by rw [List.getElem?_map, List.getElem?_eq_getElem hlt]; rfl
      have hk3 := hks32 ks[i] (List.getElem_mem hlt)
      generalize ks[i] = k at hgi hk3
      have hks : (ByteArray.mk k.toArray).size ≤ maxLen := by
        have : (ByteArray.mk k.toArray).size = k.length := by simp [ByteArray.size]
        rw [this]; unfold maxLen; omega
      have hkd : (ByteArray.mk k.toArray).data.toList = k := by simp
      simp -dsimp only [Vm.G, List.lookup, Nat.reduceAdd, Nat.reduceBEq, Int.reduceBNe, Int.reduceBEq, Nat.reduceLeDiff, q7]
      refine idxO_intro (xs := ks.map (vAv strK)) (by omega) (by simp; omega) ?_
      simp -dsimp only [Vm.G, List.lookup, Nat.reduceAdd, Nat.reduceBEq, Int.reduceBNe, Int.reduceBEq, Nat.reduceLeDiff, q7, Int.toNat_natCast]
      refine eltA_intro (xs := ks.map (vAv strK)) hgi ?_
      simp -dsimp only [Vm.G, List.lookup, Nat.reduceAdd, Nat.reduceBEq, Int.reduceBNe, Int.reduceBEq, Nat.reduceLeDiff, q7, vAv, strK, AV.cells, List.drop_zero, h1]
      refine lookup_shape mt25 z62 (by simp [cst, plain]) chg clk h2 h5.1 k (fun x l b hx hl => ?_)
      have hg := hx.ga
      rcases hx with rfl | ⟨hl0, rfl⟩
      · simp -dsimp only [Vm.G, List.lookup, Nat.reduceAdd, Nat.reduceBEq, Int.reduceBNe, Int.reduceBEq, Nat.reduceLeDiff, q7]
        refine cvX_bytes bt22 Tryz.underlying9 hks ?_
        simp -dsimp only [Vm.G, List.lookup, Nat.reduceAdd, Nat.reduceBEq, Int.reduceBNe, Int.reduceBEq, Nat.reduceLeDiff, q7, hkd]
        refine call_one (S := wasWSpec) rfl _ GaL.rfl ⟨V.iv, V.ic, V.im, mem, clk2, k, rfl, h1, h3, h5.2, fun old was => ?_⟩
        cases b
        · cases was
          · simp -dsimp only [Vm.G, List.lookup, Nat.reduceAdd, Nat.reduceBEq, Int.reduceBNe, Int.reduceBEq, Nat.reduceLeDiff, q7]
            refine cvX_bytes bt22 Tryz.underlying9 hks ?_
            simp -dsimp only [Vm.G, List.lookup, Nat.reduceAdd, Nat.reduceBEq, Int.reduceBNe, Int.reduceBEq, Nat.reduceLeDiff, q7, hkd]
            refine call_one (S := cloneWSpec) rfl _ (GaL.cons hg .nil) ⟨l, by omega, rfl, ?_, ?_⟩
            · simp -dsimp only [Vm.G, List.lookup, Nat.reduceAdd, Nat.reduceBEq, Int.reduceBNe, Int.reduceBEq, Nat.reduceLeDiff, q7]
              refine bs_intro zr68 (by decide) (by decide) rfl rfl (by simp [solid, AV.cells]) ?_
              simp -dsimp only [Vm.G, List.lookup, Nat.reduceAdd, Nat.reduceBEq, Int.reduceBNe, Int.reduceBEq, Nat.reduceLeDiff, q7]
              refine app_sl Tryz.underlying33 (by simp [AV.cells]) (by simp only [List.length_map, List.length_cons, List.length_nil]; omega) ?_
              simp -dsimp only [Vm.G, List.lookup, Nat.reduceAdd, Nat.reduceBEq, Int.reduceBNe, Int.reduceBEq, Nat.reduceLeDiff, q7]
              refine kept_intro ⟨ks.length - (i + 1), by omega, _, le_mk [(0, .ptr V.iv 0), (4, .own true 68 2 ((pu ++ [(k, l)]).map kvAv)), (5, .own true 22 1 ((de).map fun k => AV.sl 1 (k.map encB))), (18, .own true 9 1 (ks.map (vAv strK))), (19, .v (.int .i64 ks.length)), (20, .v (.int .i64 (i + 1 : Nat)))] ?_, i + 1, _, _, by omega, rfl, by exact len_snoc hpu, by omega, rfl⟩
              simp only [List.forall_mem_cons, List.not_mem_nil, false_imp_iff, implies_true, and_true, hw2, List.map_append, List.map_cons, List.map_nil, kvAv]
              try simp -dsimp only [Vm.G, List.lookup, Nat.reduceAdd, Nat.reduceBEq, Int.reduceBNe, Int.reduceBEq, Nat.reduceLeDiff, q7, hw2, List.map_append, List.map_cons, List.map_nil, kvAv]
              repeat' first | exact Fg.refl _ | exact Fg.nil _ _ _ (by decide) | refine And.intro ?_ ?_
            · simp -dsimp only [Vm.G, List.lookup, Nat.reduceAdd, Nat.reduceBEq, Int.reduceBNe, Int.reduceBEq, Nat.reduceLeDiff, q7]
              refine bs_intro zr68 (by decide) (by decide) rfl rfl (by simp [solid, AV.cells]) ?_
              simp -dsimp only [Vm.G, List.lookup, Nat.reduceAdd, Nat.reduceBEq, Int.reduceBNe, Int.reduceBEq, Nat.reduceLeDiff, q7]
              refine app_sl Tryz.underlying33 (by simp [AV.cells]) (by simp only [List.length_map, List.length_cons, List.length_nil]; omega) ?_
              simp -dsimp only [Vm.G, List.lookup, Nat.reduceAdd, Nat.reduceBEq, Int.reduceBNe, Int.reduceBEq, Nat.reduceLeDiff, q7]
              refine kept_intro ⟨ks.length - (i + 1), by omega, _, le_mk [(0, .ptr V.iv 0), (4, .own true 68 2 ((pu ++ [(k, l)]).map kvAv)), (5, .own true 22 1 ((de).map fun k => AV.sl 1 (k.map encB))), (18, .own true 9 1 (ks.map (vAv strK))), (19, .v (.int .i64 ks.length)), (20, .v (.int .i64 (i + 1 : Nat)))] ?_, i + 1, _, _, by omega, rfl, by exact len_snoc hpu, by omega, rfl⟩
              simp only [List.forall_mem_cons, List.not_mem_nil, false_imp_iff, implies_true, and_true, hw2, List.map_append, List.map_cons, List.map_nil, kvAv]
              try simp -dsimp only [Vm.G, List.lookup, Nat.reduceAdd, Nat.reduceBEq, Int.reduceBNe, Int.reduceBEq, Nat.reduceLeDiff, q7, hw2, List.map_append, List.map_cons, List.map_nil, kvAv]
              repeat' first | exact Fg.refl _ | exact Fg.nil _ _ _ (by decide) | refine And.intro ?_ ?_
          · simp -dsimp only [Vm.G, List.lookup, Nat.reduceAdd, Nat.reduceBEq, Int.reduceBNe, Int.reduceBEq, Nat.reduceLeDiff, q7]
            refine call_one (S := equalSpec) rfl _ (GaL.cons (.refl _) (GaL.cons hg .nil)) ⟨old, _, rfl, ?_⟩
            have he := Bool.eq_false_or_eq_true (old == l)
            rcases he with c | c
            · simp -dsimp only [Vm.G, List.lookup, Nat.reduceAdd, Nat.reduceBEq, Int.reduceBNe, Int.reduceBEq, Nat.reduceLeDiff, q7, c]
              refine kept_intro ⟨ks.length - (i + 1), by omega, _, le_mk [(0, .ptr V.iv 0), (4, .own true 68 2 ((pu).map kvAv)), (5, .own true 22 1 ((de).map fun k => AV.sl 1 (k.map encB))), (18, .own true 9 1 (ks.map (vAv strK))), (19, .v (.int .i64 ks.length)), (20, .v (.int .i64 (i + 1 : Nat)))] ?_, i + 1, _, _, by omega, rfl, by omega, by omega, rfl⟩
              simp only [List.forall_mem_cons, List.not_mem_nil, false_imp_iff, implies_true, and_true, hw2, List.map_append, List.map_cons, List.map_nil, kvAv]
              try simp -dsimp only [Vm.G, List.lookup, Nat.reduceAdd, Nat.reduceBEq, Int.reduceBNe, Int.reduceBEq, Nat.reduceLeDiff, q7, hw2, List.map_append, List.map_cons, List.map_nil, kvAv]
              repeat' first | exact Fg.refl _ | exact Fg.nil _ _ _ (by decide) | refine And.intro ?_ ?_
            · simp -dsimp only [Vm.G, List.lookup, Nat.reduceAdd, Nat.reduceBEq, Int.reduceBNe, Int.reduceBEq, Nat.reduceLeDiff, q7, c]
              refine cvX_bytes bt22 Tryz.underlying9 hks ?_
              simp -dsimp only [Vm.G, List.lookup, Nat.reduceAdd, Nat.reduceBEq, Int.reduceBNe, Int.reduceBEq, Nat.reduceLeDiff, q7, hkd]
              refine call_one (S := cloneWSpec) rfl _ (GaL.cons hg .nil) ⟨l, by omega, rfl, ?_, ?_⟩
              · simp -dsimp only [Vm.G, List.lookup, Nat.reduceAdd, Nat.reduceBEq, Int.reduceBNe, Int.reduceBEq, Nat.reduceLeDiff, q7]
                refine bs_intro zr68 (by decide) (by decide) rfl rfl (by simp [solid, AV.cells]) ?_
                simp -dsimp only [Vm.G, List.lookup, Nat.reduceAdd, Nat.reduceBEq, Int.reduceBNe, Int.reduceBEq, Nat.reduceLeDiff, q7]
                refine app_sl Tryz.underlying33 (by simp [AV.cells]) (by simp only [List.length_map, List.length_cons, List.length_nil]; omega) ?_
                simp -dsimp only [Vm.G, List.lookup, Nat.reduceAdd, Nat.reduceBEq, Int.reduceBNe, Int.reduceBEq, Nat.reduceLeDiff, q7]
                refine kept_intro ⟨ks.length - (i + 1), by omega, _, le_mk [(0, .ptr V.iv 0), (4, .own true 68 2 ((pu ++ [(k, l)]).map kvAv)), (5, .own true 22 1 ((de).map fun k => AV.sl 1 (k.map encB))), (18, .own true 9 1 (ks.map (vAv strK))), (19, .v (.int .i64 ks.length)), (20, .v (.int .i64 (i + 1 : Nat)))] ?_, i + 1, _, _, by omega, rfl, by exact len_snoc hpu, by omega, rfl⟩
                simp only [List.forall_mem_cons, List.not_mem_nil, false_imp_iff, implies_true, and_true, hw2, List.map_append, List.map_cons, List.map_nil, kvAv]
                try simp -dsimp only [Vm.G, List.lookup, Nat.reduceAdd, Nat.reduceBEq, Int.reduceBNe, Int.reduceBEq, Nat.reduceLeDiff, q7, hw2, List.map_append, List.map_cons, List.map_nil, kvAv]
                repeat' first | exact Fg.refl _ | exact Fg.nil _ _ _ (by decide) | refine And.intro ?_ ?_
              · simp -dsimp only [Vm.G, List.lookup, Nat.reduceAdd, Nat.reduceBEq, Int.reduceBNe, Int.reduceBEq, Nat.reduceLeDiff, q7]
                refine bs_intro zr68 (by decide) (by decide) rfl rfl (by simp [solid, AV.cells]) ?_
                simp -dsimp only [Vm.G, List.lookup, Nat.reduceAdd, Nat.reduceBEq, Int.reduceBNe, Int.reduceBEq, Nat.reduceLeDiff, q7]
                refine app_sl Tryz.underlying33 (by simp [AV.cells]) (by simp only [List.length_map, List.length_cons, List.length_nil]; omega) ?_
                simp -dsimp only [Vm.G, List.lookup, Nat.reduceAdd, Nat.reduceBEq, Int.reduceBNe, Int.reduceBEq, Nat.reduceLeDiff, q7]
                refine kept_intro ⟨ks.length - (i + 1), by omega, _, le_mk [(0, .ptr V.iv 0), (4, .own true 68 2 ((pu ++ [(k, l)]).map kvAv)), (5, .own true 22 1 ((de).map fun k => AV.sl 1 (k.map encB))), (18, .own true 9 1 (ks.map (vAv strK))), (19, .v (.int .i64 ks.length)), (20, .v (.int .i64 (i + 1 : Nat)))] ?_, i + 1, _, _, by omega, rfl, by exact len_snoc hpu, by omega, rfl⟩
                simp only [List.forall_mem_cons, List.not_mem_nil, false_imp_iff, implies_true, and_true, hw2, List.map_append, List.map_cons, List.map_nil, kvAv]
                try simp -dsimp only [Vm.G, List.lookup, Nat.reduceAdd, Nat.reduceBEq, Int.reduceBNe, Int.reduceBEq, Nat.reduceLeDiff, q7, hw2, List.map_append, List.map_cons, List.map_nil, kvAv]
                repeat' first | exact Fg.refl _ | exact Fg.nil _ _ _ (by decide) | refine And.intro ?_ ?_
        · cases was
          · simp -dsimp only [Vm.G, List.lookup, Nat.reduceAdd, Nat.reduceBEq, Int.reduceBNe, Int.reduceBEq, Nat.reduceLeDiff, q7]
            refine kept_intro ⟨ks.length - (i + 1), by omega, _, le_mk [(0, .ptr V.iv 0), (4, .own true 68 2 ((pu).map kvAv)), (5, .own true 22 1 ((de).map fun k => AV.sl 1 (k.map encB))), (18, .own true 9 1 (ks.map (vAv strK))), (19, .v (.int .i64 ks.length)), (20, .v (.int .i64 (i + 1 : Nat)))] ?_, i + 1, _, _, by omega, rfl, by omega, by omega, rfl⟩
            simp only [List.forall_mem_cons, List.not_mem_nil, false_imp_iff, implies_true, and_true, hw2, List.map_append, List.map_cons, List.map_nil, kvAv]
            try simp -dsimp only [Vm.G, List.lookup, Nat.reduceAdd, Nat.reduceBEq, Int.reduceBNe, Int.reduceBEq, Nat.reduceLeDiff, q7, hw2, List.map_append, List.map_cons, List.map_nil, kvAv]
            repeat' first | exact Fg.refl _ | exact Fg.nil _ _ _ (by decide) | refine And.intro ?_ ?_
          · simp -dsimp only [Vm.G, List.lookup, Nat.reduceAdd, Nat.reduceBEq, Int.reduceBNe, Int.reduceBEq, Nat.reduceLeDiff, q7]
            refine cvX_bytes bt22 Tryz.underlying9 hks ?_
            simp -dsimp only [Vm.G, List.lookup, Nat.reduceAdd, Nat.reduceBEq, Int.reduceBNe, Int.reduceBEq, Nat.reduceLeDiff, q7, hkd]
            refine bs_intro zr22 (by decide) (by decide) rfl rfl (by simp [solid, AV.cells]) ?_
            simp -dsimp only [Vm.G, List.lookup, Nat.reduceAdd, Nat.reduceBEq, Int.reduceBNe, Int.reduceBEq, Nat.reduceLeDiff, q7]
            refine app_sl Tryz.underlying34 (by simp [AV.cells]) (by simp only [List.length_map, List.length_cons, List.length_nil]; omega) ?_
            simp -dsimp only [Vm.G, List.lookup, Nat.reduceAdd, Nat.reduceBEq, Int.reduceBNe, Int.reduceBEq, Nat.reduceLeDiff, q7]
            refine kept_intro ⟨ks.length - (i + 1), by omega, _, le_mk [(0, .ptr V.iv 0), (4, .own true 68 2 ((pu).map kvAv)), (5, .own true 22 1 ((de ++ [k]).map fun k => AV.sl 1 (k.map encB))), (18, .own true 9 1 (ks.map (vAv strK))), (19, .v (.int .i64 ks.length)), (20, .v (.int .i64 (i + 1 : Nat)))] ?_, i + 1, _, _, by omega, rfl, by omega, by exact len_snoc hde, rfl⟩
            simp only [List.forall_mem_cons, List.not_mem_nil, false_imp_iff, implies_true, and_true, hw2, List.map_append, List.map_cons, List.map_nil, kvAv]
            try simp -dsimp only [Vm.G, List.lookup, Nat.reduceAdd, Nat.reduceBEq, Int.reduceBNe, Int.reduceBEq, Nat.reduceLeDiff, q7, hw2, List.map_append, List.map_cons, List.map_nil, kvAv]
            repeat' first | exact Fg.refl _ | exact Fg.nil _ _ _ (by decide) | refine And.intro ?_ ?_
      · simp -dsimp only [Vm.G, List.lookup, Nat.reduceAdd, Nat.reduceBEq, Int.reduceBNe, Int.reduceBEq, Nat.reduceLeDiff, q7]
        refine cvX_bytes bt22 Tryz.underlying9 hks ?_
        simp -dsimp only [Vm.G, List.lookup, Nat.reduceAdd, Nat.reduceBEq, Int.reduceBNe, Int.reduceBEq, Nat.reduceLeDiff, q7, hkd]
        refine call_one (S := wasWSpec) rfl _ GaL.rfl ⟨V.iv, V.ic, V.im, mem, clk2, k, rfl, h1, h3, h5.2, fun old was => ?_⟩
        cases b
        · cases was
          · simp -dsimp only [Vm.G, List.lookup, Nat.reduceAdd, Nat.reduceBEq, Int.reduceBNe, Int.reduceBEq, Nat.reduceLeDiff, q7]
            refine cvX_bytes bt22 Tryz.underlying9 hks ?_
            simp -dsimp only [Vm.G, List.lookup, Nat.reduceAdd, Nat.reduceBEq, Int.reduceBNe, Int.reduceBEq, Nat.reduceLeDiff, q7, hkd]
            refine call_one (S := cloneWSpec) rfl _ (GaL.cons hg .nil) ⟨l, by omega, rfl, ?_, ?_⟩
            · simp -dsimp only [Vm.G, List.lookup, Nat.reduceAdd, Nat.reduceBEq, Int.reduceBNe, Int.reduceBEq, Nat.reduceLeDiff, q7]
              refine bs_intro zr68 (by decide) (by decide) rfl rfl (by simp [solid, AV.cells]) ?_
              simp -dsimp only [Vm.G, List.lookup, Nat.reduceAdd, Nat.reduceBEq, Int.reduceBNe, Int.reduceBEq, Nat.reduceLeDiff, q7]
              refine app_sl Tryz.underlying33 (by simp [AV.cells]) (by simp only [List.length_map, List.length_cons, List.length_nil]; omega) ?_
              simp -dsimp only [Vm.G, List.lookup, Nat.reduceAdd, Nat.reduceBEq, Int.reduceBNe, Int.reduceBEq, Nat.reduceLeDiff, q7]
              refine kept_intro ⟨ks.length - (i + 1), by omega, _, le_mk [(0, .ptr V.iv 0), (4, .own true 68 2 ((pu ++ [(k, l)]).map kvAv)), (5, .own true 22 1 ((de).map fun k => AV.sl 1 (k.map encB))), (18, .own true 9 1 (ks.map (vAv strK))), (19, .v (.int .i64 ks.length)), (20, .v (.int .i64 (i + 1 : Nat)))] ?_, i + 1, _, _, by omega, rfl, by exact len_snoc hpu, by omega, rfl⟩
              simp only [List.forall_mem_cons, List.not_mem_nil, false_imp_iff, implies_true, and_true, hw2, List.map_append, List.map_cons, List.map_nil, kvAv]
              try simp -dsimp only [Vm.G, List.lookup, Nat.reduceAdd, Nat.reduceBEq, Int.reduceBNe, Int.reduceBEq, Nat.reduceLeDiff, q7, hw2, List.map_append, List.map_cons, List.map_nil, kvAv]
              repeat' first | exact Fg.refl _ | exact Fg.nil _ _ _ (by decide) | refine And.intro ?_ ?_
            · simp -dsimp only [Vm.G, List.lookup, Nat.reduceAdd, Nat.reduceBEq, Int.reduceBNe, Int.reduceBEq, Nat.reduceLeDiff, q7]
              refine bs_intro zr68 (by decide) (by decide) rfl rfl (by simp [solid, AV.cells]) ?_
              simp -dsimp only [Vm.G, List.lookup, Nat.reduceAdd, Nat.reduceBEq, Int.reduceBNe, Int.reduceBEq, Nat.reduceLeDiff, q7]
              refine app_sl Tryz.underlying33 (by simp [AV.cells]) (by simp only [List.length_map, List.length_cons, List.length_nil]; omega) ?_
              simp -dsimp only [Vm.G, List.lookup, Nat.reduceAdd, Nat.reduceBEq, Int.reduceBNe, Int.reduceBEq, Nat.reduceLeDiff, q7]
              refine kept_intro ⟨ks.length - (i + 1), by omega, _, le_mk [(0, .ptr V.iv 0), (4, .own true 68 2 ((pu ++ [(k, l)]).map kvAv)), (5, .own true 22 1 ((de).map fun k => AV.sl 1 (k.map encB))), (18, .own true 9 1 (ks.map (vAv strK))), (19, .v (.int .i64 ks.length)), (20, .v (.int .i64 (i + 1 : Nat)))] ?_, i + 1, _, _, by omega, rfl, by exact len_snoc hpu, by omega, rfl⟩
              simp only [List.forall_mem_cons, List.not_mem_nil, false_imp_iff, implies_true, and_true, hw2, List.map_append, List.map_cons, List.map_nil, kvAv]
              try simp -dsimp only [Vm.G, List.lookup, Nat.reduceAdd, Nat.reduceBEq, Int.reduceBNe, Int.reduceBEq, Nat.reduceLeDiff, q7, hw2, List.map_append, List.map_cons, List.map_nil, kvAv]
              repeat' first | exact Fg.refl _ | exact Fg.nil _ _ _ (by decide) | refine And.intro ?_ ?_
          · simp -dsimp only [Vm.G, List.lookup, Nat.reduceAdd, Nat.reduceBEq, Int.reduceBNe, Int.reduceBEq, Nat.reduceLeDiff, q7]
            refine call_one (S := equalSpec) rfl _ (GaL.cons (.refl _) (GaL.cons hg .nil)) ⟨old, _, rfl, ?_⟩
            have he := Bool.eq_false_or_eq_true (old == l)
            rcases he with c | c
            · simp -dsimp only [Vm.G, List.lookup, Nat.reduceAdd, Nat.reduceBEq, Int.reduceBNe, Int.reduceBEq, Nat.reduceLeDiff, q7, c]
              refine kept_intro ⟨ks.length - (i + 1), by omega, _, le_mk [(0, .ptr V.iv 0), (4, .own true 68 2 ((pu).map kvAv)), (5, .own true 22 1 ((de).map fun k => AV.sl 1 (k.map encB))), (18, .own true 9 1 (ks.map (vAv strK))), (19, .v (.int .i64 ks.length)), (20, .v (.int .i64 (i + 1 : Nat)))] ?_, i + 1, _, _, by omega, rfl, by omega, by omega, rfl⟩
              simp only [List.forall_mem_cons, List.not_mem_nil, false_imp_iff, implies_true, and_true, hw2, List.map_append, List.map_cons, List.map_nil, kvAv]
              try simp -dsimp only [Vm.G, List.lookup, Nat.reduceAdd, Nat.reduceBEq, Int.reduceBNe, Int.reduceBEq, Nat.reduceLeDiff, q7, hw2, List.map_append, List.map_cons, List.map_nil, kvAv]
              repeat' first | exact Fg.refl _ | exact Fg.nil _ _ _ (by decide) | refine And.intro ?_ ?_
            · simp -dsimp only [Vm.G, List.lookup, Nat.reduceAdd, Nat.reduceBEq, Int.reduceBNe, Int.reduceBEq, Nat.reduceLeDiff, q7, c]
              refine cvX_bytes bt22 Tryz.underlying9 hks ?_
              simp -dsimp only [Vm.G, List.lookup, Nat.reduceAdd, Nat.reduceBEq, Int.reduceBNe, Int.reduceBEq, Nat.reduceLeDiff, q7, hkd]
              refine call_one (S := cloneWSpec) rfl _ (GaL.cons hg .nil) ⟨l, by omega, rfl, ?_, ?_⟩
              · simp -dsimp only [Vm.G, List.lookup, Nat.reduceAdd, Nat.reduceBEq, Int.reduceBNe, Int.reduceBEq, Nat.reduceLeDiff, q7]
                refine bs_intro zr68 (by decide) (by decide) rfl rfl (by simp [solid, AV.cells]) ?_
                simp -dsimp only [Vm.G, List.lookup, Nat.reduceAdd, Nat.reduceBEq, Int.reduceBNe, Int.reduceBEq, Nat.reduceLeDiff, q7]
                refine app_sl Tryz.underlying33 (by simp [AV.cells]) (by simp only [List.length_map, List.length_cons, List.length_nil]; omega) ?_
                simp -dsimp only [Vm.G, List.lookup, Nat.reduceAdd, Nat.reduceBEq, Int.reduceBNe, Int.reduceBEq, Nat.reduceLeDiff, q7]
                refine kept_intro ⟨ks.length - (i + 1), by omega, _, le_mk [(0, .ptr V.iv 0), (4, .own true 68 2 ((pu ++ [(k, l)]).map kvAv)), (5, .own true 22 1 ((de).map fun k => AV.sl 1 (k.map encB))), (18, .own true 9 1 (ks.map (vAv strK))), (19, .v (.int .i64 ks.length)), (20, .v (.int .i64 (i + 1 : Nat)))] ?_, i + 1, _, _, by omega, rfl, by exact len_snoc hpu, by omega, rfl⟩
                simp only [List.forall_mem_cons, List.not_mem_nil, false_imp_iff, implies_true, and_true, hw2, List.map_append, List.map_cons, List.map_nil, kvAv]
                try simp -dsimp only [Vm.G, List.lookup, Nat.reduceAdd, Nat.reduceBEq, Int.reduceBNe, Int.reduceBEq, Nat.reduceLeDiff, q7, hw2, List.map_append, List.map_cons, List.map_nil, kvAv]
                repeat' first | exact Fg.refl _ | exact Fg.nil _ _ _ (by decide) | refine And.intro ?_ ?_
              · simp -dsimp only [Vm.G, List.lookup, Nat.reduceAdd, Nat.reduceBEq, Int.reduceBNe, Int.reduceBEq, Nat.reduceLeDiff, q7]
                refine bs_intro zr68 (by decide) (by decide) rfl rfl (by simp [solid, AV.cells]) ?_
                simp -dsimp only [Vm.G, List.lookup, Nat.reduceAdd, Nat.reduceBEq, Int.reduceBNe, Int.reduceBEq, Nat.reduceLeDiff, q7]
                refine app_sl Tryz.underlying33 (by simp [AV.cells]) (by simp only [List.length_map, List.length_cons, List.length_nil]; omega) ?_
                simp -dsimp only [Vm.G, List.lookup, Nat.reduceAdd, Nat.reduceBEq, Int.reduceBNe, Int.reduceBEq, Nat.reduceLeDiff, q7]
                refine kept_intro ⟨ks.length - (i + 1), by omega, _, le_mk [(0, .ptr V.iv 0), (4, .own true 68 2 ((pu ++ [(k, l)]).map kvAv)), (5, .own true 22 1 ((de).map fun k => AV.sl 1 (k.map encB))), (18, .own true 9 1 (ks.map (vAv strK))), (19, .v (.int .i64 ks.length)), (20, .v (.int .i64 (i + 1 : Nat)))] ?_, i + 1, _, _, by omega, rfl, by exact len_snoc hpu, by omega, rfl⟩
                simp only [List.forall_mem_cons, List.not_mem_nil, false_imp_iff, implies_true, and_true, hw2, List.map_append, List.map_cons, List.map_nil, kvAv]
                try simp -dsimp only [Vm.G, List.lookup, Nat.reduceAdd, Nat.reduceBEq, Int.reduceBNe, Int.reduceBEq, Nat.reduceLeDiff, q7, hw2, List.map_append, List.map_cons, List.map_nil, kvAv]
                repeat' first | exact Fg.refl _ | exact Fg.nil _ _ _ (by decide) | refine And.intro ?_ ?_
        · cases was
          · simp -dsimp only [Vm.G, List.lookup, Nat.reduceAdd, Nat.reduceBEq, Int.reduceBNe, Int.reduceBEq, Nat.reduceLeDiff, q7]
            refine kept_intro ⟨ks.length - (i + 1), by omega, _, le_mk [(0, .ptr V.iv 0), (4, .own true 68 2 ((pu).map kvAv)), (5, .own true 22 1 ((de).map fun k => AV.sl 1 (k.map encB))), (18, .own true 9 1 (ks.map (vAv strK))), (19, .v (.int .i64 ks.length)), (20, .v (.int .i64 (i + 1 : Nat)))] ?_, i + 1, _, _, by omega, rfl, by omega, by omega, rfl⟩
            simp only [List.forall_mem_cons, List.not_mem_nil, false_imp_iff, implies_true, and_true, hw2, List.map_append, List.map_cons, List.map_nil, kvAv]
            try simp -dsimp only [Vm.G, List.lookup, Nat.reduceAdd, Nat.reduceBEq, Int.reduceBNe, Int.reduceBEq, Nat.reduceLeDiff, q7, hw2, List.map_append, List.map_cons, List.map_nil, kvAv]
            repeat' first | exact Fg.refl _ | exact Fg.nil _ _ _ (by decide) | refine And.intro ?_ ?_
          · simp -dsimp only [Vm.G, List.lookup, Nat.reduceAdd, Nat.reduceBEq, Int.reduceBNe, Int.reduceBEq, Nat.reduceLeDiff, q7]
            refine cvX_bytes bt22 Tryz.underlying9 hks ?_
            simp -dsimp only [Vm.G, List.lookup, Nat.reduceAdd, Nat.reduceBEq, Int.reduceBNe, Int.reduceBEq, Nat.reduceLeDiff, q7, hkd]
            refine bs_intro zr22 (by decide) (by decide) rfl rfl (by simp [solid, AV.cells]) ?_
            simp -dsimp only [Vm.G, List.lookup, Nat.reduceAdd, Nat.reduceBEq, Int.reduceBNe, Int.reduceBEq, Nat.reduceLeDiff, q7]
            refine app_sl Tryz.underlying34 (by simp [AV.cells]) (by simp only [List.length_map, List.length_cons, List.length_nil]; omega) ?_
            simp -dsimp only [Vm.G, List.lookup, Nat.reduceAdd, Nat.reduceBEq, Int.reduceBNe, Int.reduceBEq, Nat.reduceLeDiff, q7]
            refine kept_intro ⟨ks.length - (i + 1), by omega, _, le_mk [(0, .ptr V.iv 0), (4, .own true 68 2 ((pu).map kvAv)), (5, .own true 22 1 ((de ++ [k]).map fun k => AV.sl 1 (k.map encB))), (18, .own true 9 1 (ks.map (vAv strK))), (19, .v (.int .i64 ks.length)), (20, .v (.int .i64 (i + 1 : Nat)))] ?_, i + 1, _, _, by omega, rfl, by omega, by exact len_snoc hde, rfl⟩
            simp only [List.forall_mem_cons, List.not_mem_nil, false_imp_iff, implies_true, and_true, hw2, List.map_append, List.map_cons, List.map_nil, kvAv]
            try simp -dsimp only [Vm.G, List.lookup, Nat.reduceAdd, Nat.reduceBEq, Int.reduceBNe, Int.reduceBEq, Nat.reduceLeDiff, q7, hw2, List.map_append, List.map_cons, List.map_nil, kvAv]
            repeat' first | exact Fg.refl _ | exact Fg.nil _ _ _ (by decide) | refine And.intro ?_ ?_
    · have hge : ¬ i < ks.length := by have := of_decide_eq_false hcc; omega
      simp -dsimp only [Vm.G, List.lookup, Nat.reduceAdd, Nat.reduceBEq, Int.reduceBNe, Int.reduceBEq, Nat.reduceLeDiff, q7]
      exact hq pu de
theorem heap_set_same {h : Heap} {i : Nat} {x : AObj} (hx : h[i]? = some x) : h.set i x = h := by
  apply List.ext_getElem?
  intro j
  rw [List.getElem?_set]
  split
  · rename_i e; subst e
    split
    · exact hx.symm
    · rename_i hn; exact absurd (get_lt hx) hn
  · rfl
theorem Kept.perm {mem0 done chg mem : List Ent} {clk : Nat} (h : Kept mem0 done mem clk) (hp : done.Perm chg) (hk : ∀ e ∈ chg, ∃ k, e.key = strK k) (hn : (chg.map kOf).Nodup) : Kept mem0 chg mem clk :=
  ⟨h.wf, h.born, by have := hp.length_eq; have := h.len; omega, h.short, fun k => by
    rw [h.now k]
    exact nowOf_perm hp (fun e he => hk e (hp.mem_iff.1 he)) ((hp.map kOf).nodup_iff.2 hn) k⟩
def keepSpec : Vm.Spec := fun args h Q => ∃ (V : VId) (chg mem : List Ent) (clk clk2 : Nat), args = [.ptr V.iv 0] ∧ h[V.iv]? = some (vobj V.ic V.im) ∧ h[V.ic]? = some (.map chg clk) ∧ h[V.im]? = some (.map mem clk2) ∧ (V.iv ≠ V.im ∧ V.ic ≠ V.im) ∧ ((∀ e ∈ chg, WfC e) ∧ ∀ e ∈ mem, WfM e) ∧ (Born chg clk ∧ Born mem clk2) ∧
  (∀ e, e ∈ chg ∨ e ∈ mem → (kOf e).length ≤ 32) ∧ ∀ mem' clk', Kept mem chg mem' clk' → Q (.tup []) (h.set V.im (.map mem' clk'))
set_option maxRecDepth 20000 in
set_option maxHeartbeats 2000000 in
theorem does_keep : Does Tryz.prog 35 keepSpec := by
  refine does_of_awp good_nil Tryz.func35 rfl (by decide +kernel) (by decide +kernel) ?_
  rintro args h Q ⟨V, chg, mem, clk, clk2, rfl, h1, h2, h3, h4, h5, h6, hk32, hq⟩
  refine ⟨by simp [Tryz.f35], ?_⟩
  rw [awpFunc_some (by rfl)]
  simp -dsimp only [Vm.G, List.lookup, Nat.reduceAdd, Nat.reduceBEq, Int.reduceBNe, Int.reduceBEq, Nat.reduceLeDiff, q35, h1]
  refine range_intro mt25 chg clk h2 ?_
  simp -dsimp only [Vm.G, List.lookup, Nat.reduceAdd, Nat.reduceBEq, Int.reduceBNe, Int.reduceBEq, Nat.reduceLeDiff, q35]
  refine awp_loop (fun m s h' => ∃ (done me : List Ent) (ck : Nat), m = (leftE chg (done.map (·.born))).length ∧ done.length + m ≤ chg.length ∧ Kept mem done me ck ∧ h' = h.set V.im (.map me ck) ∧ (∀ d ∈ done, d ∈ chg) ∧ (done.map (·.born)).Nodup ∧ s = mk [(0, .ptr V.iv 0), (8, .iter V.ic clk ((done).map (·.born)) clk)])
    chg.length _ (le_mk _ ?_) ⟨[], mem, clk2, (congrArg List.length (List.filter_eq_self.2 fun _ _ => rfl)).symm, by simp, ⟨h5.2, h6.2, by simp, fun e he => hk32 e (.inr he), fun k => rfl⟩, (heap_set_same h3).symm, by simp, by simp, rfl⟩ ?_
  · simp only [List.forall_mem_cons, List.not_mem_nil, false_imp_iff, implies_true, and_true]
    try simp -dsimp only [Vm.G, List.lookup, Nat.reduceAdd, Nat.reduceBEq, Int.reduceBNe, Int.reduceBEq, Nat.reduceLeDiff, q35]
    repeat' first | exact Fg.refl _ | exact Fg.nil _ _ _ (by decide) | refine And.intro ?_ ?_
  · rintro m s h' ⟨done, me, ck, rfl, hlen, hK, hh, hd, hdn, rfl⟩
    have g1 : h'[V.iv]? = some (vobj V.ic V.im) := by rw [hh, List.getElem?_set_ne h4.1.symm]; exact h1
    have g2 : h'[V.ic]? = some (.map chg clk) := by rw [hh, List.getElem?_set_ne h4.2.symm]; exact h2
    have g3 : h'[V.im]? = some (.map me ck) := by rw [hh, List.getElem?_set_self (get_lt h3)]
    simp -dsimp only [Vm.G, List.lookup, Nat.reduceAdd, Nat.reduceBEq, Int.reduceBNe, Int.reduceBEq, Nat.reduceLeDiff, q35]
    refine next_intro chg clk g2 (fun e he => h6.1.2 e he) (Nat.le_refl _) (fun hlf => ?_) (fun e he => ?_)
    · have hD : done.Perm chg := seen_all h6.1.1.1 hd hdn hlf
      simp -dsimp only [Vm.G, List.lookup, Nat.reduceAdd, Nat.reduceBEq, Int.reduceBNe, Int.reduceBEq, Nat.reduceLeDiff, q35]
      rw [hh]
      exact hq me ck (hK.perm hD (fun e he => (h5.1 e he).1) h6.1.1.2)
    · obtain ⟨hem, heb⟩ := left_mem he
      obtain ⟨⟨k, hk⟩, x, l, b, hx, hl, hev⟩ := h5.1 e hem
      obtain ⟨hd2, hdn2⟩ := done_more he hd hdn
      have hless := left_less he
      have emap : (done ++ [e]).map (·.born) = done.map (·.born) ++ [e.born] := by simp
      have hkk := kOf_eq hk
      have hke : k.length ≤ 32 := by rw [← hkk]; exact hk32 e (.inl hem)
      have hkd : ∀ e ∈ done, ∃ k, e.key = strK k := fun e he => (h5.1 e (hd e he)).1
      have hnn : ((done ++ [e]).map kOf).Nodup := by
        have hdd : (done ++ [e]).Nodup := by
          exact List.Pairwise.of_map (fun e : Ent => e.born) (fun a b h e => h (by rw [e])) hdn2
        refine List.Pairwise.map kOf (fun a b hab => hab) ?_
        refine hdd.imp_of_mem fun {a b} ha hb hne => ?_
        intro e2
        exact hne (inj_of_map h6.1.1.2 (hd2 a ha) (hd2 b hb) e2)
      simp -dsimp only [Vm.G, List.lookup, Nat.reduceAdd, Nat.reduceBEq, Int.reduceBNe, Int.reduceBEq, Nat.reduceLeDiff, q35]
      refine entry_intro chg clk e g2 (find_born h6.1.1.1 hem) ?_
      simp only [hk, strK, hev]
      cases b
      · have hx0 := hx
        rcases hx with rfl | ⟨rfl, rfl⟩
        · simp -dsimp only [Vm.G, List.lookup, Nat.reduceAdd, Nat.reduceBEq, Int.reduceBNe, Int.reduceBEq, Nat.reduceLeDiff, q35]
          refine draw_cont [3] (.take 0 (.take 1 (.take 2 (.take 4 (.take 5 (.take 6 (.alt 3 (.alt 7 (.done) .stop) .stop))))))) (fun s h2 => h2 = h'.set V.im (.map (mput (strK k) (.sl 1 (l.map encB)) ck me) (mclk (strK k) me ck)) ∧ s 0 = .ptr V.iv 0 ∧ s 8 = .iter V.ic clk (done.map (·.born) ++ [e.born]) clk) (by kernel_rfl) (by kernel_rfl) (by kernel_rfl) (by decide) ?_ ?_
          · simp -dsimp only [Vm.G, List.lookup, Nat.reduceAdd, Nat.reduceBEq, Int.reduceBNe, Int.reduceBEq, Nat.reduceLeDiff, q35, g1]
            refine update_intro mt27 me ck g3 trivial (keys_str fun e he => (hK.wf e he).1) ?_
            simp -dsimp only [Vm.G, List.lookup, Nat.reduceAdd, Nat.reduceBEq, Int.reduceBNe, Int.reduceBEq, Nat.reduceLeDiff, q35]
            repeat' first | rfl | exact True.intro | refine And.intro ?_ ?_
          · rintro s h2 ⟨rfl, e0, e8⟩
            simp -dsimp only [Vm.G, List.lookup, Nat.reduceAdd, Nat.reduceBEq, Int.reduceBNe, Int.reduceBEq, Nat.reduceLeDiff, q35, e0, e8]
            refine kept_intro ⟨_, hless, _, le_mk [(0, .ptr V.iv 0), (8, .iter V.ic clk ((done ++ [e]).map (·.born)) clk)] ?_, done ++ [e], _, _, by rw [emap], by rw [List.length_append]; simp only [List.length_cons, List.length_nil]; omega, hK.put hk (by rw [hev]; exact congrArg some (bytesOf_isB hx0)) hx0 hl hke hkd hnn, by rw [hh, List.set_set], hd2, hdn2, rfl⟩
            simp only [List.forall_mem_cons, List.not_mem_nil, false_imp_iff, implies_true, and_true, emap, e0, e8]
            try simp -dsimp only [Vm.G, List.lookup, Nat.reduceAdd, Nat.reduceBEq, Int.reduceBNe, Int.reduceBEq, Nat.reduceLeDiff, q35, emap, e0, e8]
            repeat' first | exact Fg.refl _ | exact Fg.nil _ _ _ (by decide) | refine And.intro ?_ ?_
        · simp -dsimp only [Vm.G, List.lookup, Nat.reduceAdd, Nat.reduceBEq, Int.reduceBNe, Int.reduceBEq, Nat.reduceLeDiff, q35]
          refine draw_cont [3] (.take 0 (.take 1 (.take 2 (.take 4 (.take 5 (.take 6 (.alt 3 (.alt 7 (.done) .stop) .stop))))))) (fun s h2 => h2 = h'.set V.im (.map (mput (strK k) (.v (.slice none 0 0)) ck me) (mclk (strK k) me ck)) ∧ s 0 = .ptr V.iv 0 ∧ s 8 = .iter V.ic clk (done.map (·.born) ++ [e.born]) clk) (by kernel_rfl) (by kernel_rfl) (by kernel_rfl) (by decide) ?_ ?_
          · simp -dsimp only [Vm.G, List.lookup, Nat.reduceAdd, Nat.reduceBEq, Int.reduceBNe, Int.reduceBEq, Nat.reduceLeDiff, q35, g1]
            refine update_intro mt27 me ck g3 trivial (keys_str fun e he => (hK.wf e he).1) ?_
            simp -dsimp only [Vm.G, List.lookup, Nat.reduceAdd, Nat.reduceBEq, Int.reduceBNe, Int.reduceBEq, Nat.reduceLeDiff, q35]
            repeat' first | rfl | exact True.intro | refine And.intro ?_ ?_
          · rintro s h2 ⟨rfl, e0, e8⟩
            simp -dsimp only [Vm.G, List.lookup, Nat.reduceAdd, Nat.reduceBEq, Int.reduceBNe, Int.reduceBEq, Nat.reduceLeDiff, q35, e0, e8]
            refine kept_intro ⟨_, hless, _, le_mk [(0, .ptr V.iv 0), (8, .iter V.ic clk ((done ++ [e]).map (·.born)) clk)] ?_, done ++ [e], _, _, by rw [emap], by rw [List.length_append]; simp only [List.length_cons, List.length_nil]; omega, hK.put hk (by rw [hev]; exact congrArg some (bytesOf_isB hx0)) hx0 hl hke hkd hnn, by rw [hh, List.set_set], hd2, hdn2, rfl⟩
            simp only [List.forall_mem_cons, List.not_mem_nil, false_imp_iff, implies_true, and_true, emap, e0, e8]
            try simp -dsimp only [Vm.G, List.lookup, Nat.reduceAdd, Nat.reduceBEq, Int.reduceBNe, Int.reduceBEq, Nat.reduceLeDiff, q35, emap, e0, e8]
            repeat' first | exact Fg.refl _ | exact Fg.nil _ _ _ (by decide) | refine And.intro ?_ ?_
      · have hx0 := hx
        have hs : shapeOf e.val = none := by rw [hev]; rfl
        rcases hx with rfl | ⟨rfl, rfl⟩
        · simp -dsimp only [Vm.G, List.lookup, Nat.reduceAdd, Nat.reduceBEq, Int.reduceBNe, Int.reduceBEq, Nat.reduceLeDiff, q35, g1]
          refine delete_intro mt27 me ck g3 trivial (keys_str fun e he => (hK.wf e he).1) ?_
          simp -dsimp only [Vm.G, List.lookup, Nat.reduceAdd, Nat.reduceBEq, Int.reduceBNe, Int.reduceBEq, Nat.reduceLeDiff, q35]
          refine kept_intro ⟨_, hless, _, le_mk [(0, .ptr V.iv 0), (8, .iter V.ic clk ((done ++ [e]).map (·.born)) clk)] ?_, done ++ [e], _, _, by rw [emap], by rw [List.length_append]; simp only [List.length_cons, List.length_nil]; omega, hK.del hk hs hkd hnn, by rw [hh, List.set_set]; rfl, hd2, hdn2, rfl⟩
          simp only [List.forall_mem_cons, List.not_mem_nil, false_imp_iff, implies_true, and_true, emap]
          try simp -dsimp only [Vm.G, List.lookup, Nat.reduceAdd, Nat.reduceBEq, Int.reduceBNe, Int.reduceBEq, Nat.reduceLeDiff, q35, emap]
          repeat' first | exact Fg.refl _ | exact Fg.nil _ _ _ (by decide) | refine And.intro ?_ ?_
        · simp -dsimp only [Vm.G, List.lookup, Nat.reduceAdd, Nat.reduceBEq, Int.reduceBNe, Int.reduceBEq, Nat.reduceLeDiff, q35, g1]
          refine delete_intro mt27 me ck g3 trivial (keys_str fun e he => (hK.wf e he).1) ?_
          simp -dsimp only [Vm.G, List.lookup, Nat.reduceAdd, Nat.reduceBEq, Int.reduceBNe, Int.reduceBEq, Nat.reduceLeDiff, q35]
          refine kept_intro ⟨_, hless, _, le_mk [(0, .ptr V.iv 0), (8, .iter V.ic clk ((done ++ [e]).map (·.born)) clk)] ?_, done ++ [e], _, _, by rw [emap], by rw [List.length_append]; simp only [List.length_cons, List.length_nil]; omega, hK.del hk hs hkd hnn, by rw [hh, List.set_set]; rfl, hd2, hdn2, rfl⟩
          simp only [List.forall_mem_cons, List.not_mem_nil, false_imp_iff, implies_true, and_true, emap]
          try simp -dsimp only [Vm.G, List.lookup, Nat.reduceAdd, Nat.reduceBEq, Int.reduceBNe, Int.reduceBEq, Nat.reduceLeDiff, q35, emap]
          repeat' first | exact Fg.refl _ | exact Fg.nil _ _ _ (by decide) | refine And.intro ?_ ?_
def commitSpec : Vm.Spec := fun args h Q => ∃ (V : VId) (f : Fun), args = [.ptr V.iv 0] ∧ isView h V f ∧ f.n ≤ 536870912 ∧ ∀ h', isView h' V f → memV h' V f → Same h h' [V.ic, V.im] → Q (.v (.int .i64 0)) h'
set_option maxHeartbeats 1000000 in
theorem does_commit : Does Tryz.prog 12 commitSpec := by
  refine does_of_awp (good_cons does_vready (good_cons does_changes (good_cons does_keep good_nil))) Tryz.func12 rfl (by decide +kernel) (by decide +kernel) ?_
  rintro args h Q ⟨V, f, rfl, hV, hfn, hq⟩
  refine ⟨by simp [Tryz.f12], ?_⟩
  rw [awpFunc_some (by rfl)]
  have hV0 := hV
  obtain ⟨chg, clk, mem, clk2, h1, h2, h3, h4, h5, h6, h7, hlen, hk32⟩ := hV
  simp -dsimp only [Vm.G, List.lookup, Nat.reduceAdd, Nat.reduceBEq, Int.reduceBNe, Int.reduceBEq, Nat.reduceLeDiff, q12]
  refine call_one (S := vreadySpec) rfl _ GaL.rfl ⟨V.iv, V.ic, _, rfl, h1, ?_⟩
  simp -dsimp only [Vm.G, List.lookup, Nat.reduceAdd, Nat.reduceBEq, Int.reduceBNe, Int.reduceBEq, Nat.reduceLeDiff, q12]
  refine call_one (S := changesSpec) rfl _ GaL.rfl ⟨V, f, rfl, hV0, hfn, fun p d => ?_⟩
  simp -dsimp only [Vm.G, List.lookup, Nat.reduceAdd, Nat.reduceBEq, Int.reduceBNe, Int.reduceBEq, Nat.reduceLeDiff, q12, h1, bne_self_eq_false]
  refine nil_pointer Tryz.underlying26 ?_
  simp -dsimp only [Vm.G, List.lookup, Nat.reduceAdd, Nat.reduceBEq, Int.reduceBNe, Int.reduceBEq, Nat.reduceLeDiff, q12]
  refine call_one (S := keepSpec) rfl _ GaL.rfl ⟨V, chg, mem, clk, clk2, rfl, h1, h2, h3, ⟨h4.2.1, h4.2.2⟩, h5, h6, hk32, fun me ck hK => ?_⟩
  have g1 : (h.set V.im (.map me ck))[V.iv]? = some (vobj V.ic V.im) := by rw [List.getElem?_set_ne h4.2.1.symm]; exact h1
  have g2 : (h.set V.im (.map me ck))[V.ic]? = some (.map chg clk) := by rw [List.getElem?_set_ne h4.2.2.symm]; exact h2
  have g3 : (h.set V.im (.map me ck))[V.im]? = some (.map me ck) := List.getElem?_set_self (get_lt h3)
  have hsame : Same h (h.set V.im (.map me ck)) [V.ic, V.im] := ⟨by simp, fun i _ hi => List.getElem?_set_ne (by simp at hi; omega)⟩
  generalize h.set V.im (.map me ck) = hh at g1 g2 g3 hsame ⊢
  simp -dsimp only [Vm.G, List.lookup, Nat.reduceAdd, Nat.reduceBEq, Int.reduceBNe, Int.reduceBEq, Nat.reduceLeDiff, q12, g1]
  refine clear_intro mt25 chg clk g2 ?_
  simp -dsimp only [Vm.G, List.lookup, Nat.reduceAdd, Nat.reduceBEq, Int.reduceBNe, Int.reduceBEq, Nat.reduceLeDiff, q12]
  have k1 : (hh.set V.ic (.map [] clk))[V.iv]? = some (vobj V.ic V.im) := by rw [List.getElem?_set_ne h4.1.symm]; exact g1
  have k2 : (hh.set V.ic (.map [] clk))[V.ic]? = some (.map [] clk) := List.getElem?_set_self (get_lt g2)
  have k3 : (hh.set V.ic (.map [] clk))[V.im]? = some (.map me ck) := by rw [List.getElem?_set_ne h4.2.2]; exact g3
  have hn : ∀ k, f k = memOf me k := fun k => by rw [hK.now k]; exact h7 k
  have hl : me.length ≤ f.n := by have := hK.len; omega
  refine hq _ ⟨[], clk, me, ck, k1, k2, k3, h4, ⟨by simp, hK.wf⟩, ⟨⟨⟨.nil, .nil⟩, by simp⟩, hK.born⟩, hn, by simpa using hl, fun e he => ?_⟩ ⟨me, ck, k3, hn, hl⟩ (hsame.trans ⟨by simp, fun i _ hi => List.getElem?_set_ne (by simp at hi; omega)⟩)
  rcases he with he | he
  · simp at he
  · exact hK.short e he
def abortSpec : Vm.Spec := fun args h Q => ∃ (V : VId) (f g : Fun), args = [.ptr V.iv 0] ∧ isView h V f ∧ memV h V g ∧ ∀ h', isView h' V g → memV h' V g → Same h h' [V.ic] → Q (.tup []) h'
theorem does_abort : Does Tryz.prog 8 abortSpec := by
  refine does_of_awp (good_cons does_vready good_nil) Tryz.func8 rfl (by decide +kernel) (by decide +kernel) ?_
  rintro args h Q ⟨V, f, g, rfl, ⟨chg, clk, mem, clk2, h1, h2, h3, h4, h5, h6, h7, hlen, hk32⟩, ⟨mem', ck', hm1, hm2, hm3⟩, hq⟩
  refine ⟨by simp [Tryz.f8], ?_⟩
  rw [awpFunc_some (by rfl)]
  rw [h3] at hm1
  cases hm1
  simp -dsimp only [Vm.G, List.lookup, Nat.reduceAdd, Nat.reduceBEq, Int.reduceBNe, Int.reduceBEq, Nat.reduceLeDiff, q8]
  refine call_one (S := vreadySpec) rfl _ GaL.rfl ⟨V.iv, V.ic, _, rfl, h1, ?_⟩
  simp -dsimp only [Vm.G, List.lookup, Nat.reduceAdd, Nat.reduceBEq, Int.reduceBNe, Int.reduceBEq, Nat.reduceLeDiff, q8, h1]
  refine clear_intro mt25 chg clk h2 ?_
  have k1 : (h.set V.ic (.map [] clk))[V.iv]? = some (vobj V.ic V.im) := by rw [List.getElem?_set_ne h4.1.symm]; exact h1
  have k2 : (h.set V.ic (.map [] clk))[V.ic]? = some (.map [] clk) := List.getElem?_set_self (get_lt h2)
  have k3 : (h.set V.ic (.map [] clk))[V.im]? = some (.map mem clk2) := by rw [List.getElem?_set_ne h4.2.2]; exact h3
  have hsame : Same h (h.set V.ic (.map [] clk)) [V.ic] := Same.set _ _ _
  generalize h.set V.ic (.map [] clk) = hh at k1 k2 k3 hsame ⊢
  simp -dsimp only [Vm.E, List.lookup, Nat.reduceAdd, Nat.reduceBEq, Int.reduceBNe, Int.reduceBEq, Bool.true_beq, Bool.false_beq, q8, k1]
  refine store_ptr _ k1 rfl rfl (by simp) ?_
  simp -dsimp only [Vm.G, List.lookup, Nat.reduceAdd, Nat.reduceBEq, Int.reduceBNe, Int.reduceBEq, Nat.reduceLeDiff, q8]
  rw [heap_set_same k1]
  refine hq hh ⟨[], clk, mem, clk2, k1, k2, k3, h4, ⟨by simp, h5.2⟩, ⟨⟨⟨.nil, .nil⟩, by simp⟩, h6.2⟩, hm2, by simpa using hm3, fun e he => ?_⟩ ⟨mem, clk2, k3, hm2, hm3⟩ hsame
  rcases he with he | he
  · simp at he
  · exact hk32 e (.inr he)
end Go.Proofs.Lx
/- A view's changes, exactly. -/
set_option linter.unusedSimpArgs false
set_option linter.unusedVariables false
namespace Go.Proofs.Lx
open Go.Vm
attribute [local irreducible] awpArr awpBin awpMake awpAppend awpCvX awpStrOf awpBinX awpSlice awpBS awpStore awpAlloc awpCopy awpIndex awpDraw awpIdxX awpFa awpField awpLookup awpUpdate awpDelete awpClear awpRange awpNext awpEntry awpBuild awpClearS awpIdxL awpTree appB awpIdxO eltA treeA
def IsPuts (f g : Fun) (l : List KV) : Prop := l.Pairwise keyLt ∧ ∀ k v, (k, v) ∈ l ↔ f k = some v ∧ g k ≠ some v
def IsDels (f g : Fun) (l : List (List UInt8)) : Prop := l.Pairwise (fun a b => Lib.compareBytes a b < 0) ∧ ∀ k, k ∈ l ↔ f k = none ∧ g k ≠ none
theorem puts_same {f g : Fun} {l l' : List KV} (h : IsPuts f g l) (h' : IsPuts f g l') : l = l' :=
  sorted_same h.1 h'.1 fun p => (h.2 p.1 p.2).trans (h'.2 p.1 p.2).symm
theorem dels_same {f g : Fun} {l l' : List (List UInt8)} (h : IsDels f g l) (h' : IsDels f g l') : l = l' := by
  have e : l.map (fun k => ((k, []) : KV)) = l'.map fun k => (k, []) := by
    refine sorted_same (by rw [List.pairwise_map]; exact h.1) (by rw [List.pairwise_map]; exact h'.1) fun p => ?_
    rw [List.mem_map, List.mem_map]
    exact ⟨fun ⟨k, hk, e⟩ => ⟨k, (h'.2 k).2 ((h.2 k).1 hk), e⟩, fun ⟨k, hk, e⟩ => ⟨k, (h.2 k).2 ((h'.2 k).1 hk), e⟩⟩
  have := congrArg (List.map Prod.fst) e
  simpa [List.map_map, Function.comp_def] using this
def toldP (f g : Fun) (k : List UInt8) : Option KV := match f k with
  | some v => if g k = some v then none else some (k, v)
  | none => none
def toldD (f g : Fun) (k : List UInt8) : Option (List UInt8) := if f k = none ∧ g k ≠ none then some k else none
theorem puts_is {f g : Fun} {ks : List (List UInt8)} (hs : ks.Pairwise (fun a b => Lib.compareBytes a b < 0)) (hall : ∀ k, f k ≠ g k → k ∈ ks) : IsPuts f g (ks.filterMap (toldP f g)) := by
  refine ⟨?_, fun k v => ?_⟩
  · rw [List.pairwise_filterMap]
    refine hs.imp fun {a b} hab p hp q hq => ?_
    have e1 : p.1 = a := by
      unfold toldP at hp
      split at hp
      · split at hp
        · cases hp
        · cases hp; rfl
      · cases hp
    have e2 : q.1 = b := by
      unfold toldP at hq
      split at hq
      · split at hq
        · cases hq
        · cases hq; rfl
      · cases hq
    show Lib.compareBytes p.1 q.1 < 0
    rw [e1, e2]; exact hab
  · rw [List.mem_filterMap]
    constructor
    · rintro ⟨a, -, e⟩
      unfold toldP at e
      split at e
      · rename_i w hw
        split at e
        · cases e
        · rename_i hn
          cases e
          exact ⟨hw, hn⟩
      · cases e
    · rintro ⟨h1, h2⟩
      refine ⟨k, hall k (by rw [h1]; exact fun e => h2 e.symm), ?_⟩
      unfold toldP
      rw [h1]
      simp only
      rw [if_neg h2]
theorem dels_is {f g : Fun} {ks : List (List UInt8)} (hs : ks.Pairwise (fun a b => Lib.compareBytes a b < 0)) (hall : ∀ k, f k ≠ g k → k ∈ ks) : IsDels f g (ks.filterMap (toldD f g)) := by
  refine ⟨?_, fun k => ?_⟩
  · rw [List.pairwise_filterMap]
    refine hs.imp fun {a b} hab p hp q hq => ?_
    unfold toldD at hp hq
    split at hp
    · split at hq
      · cases hp; cases hq; exact hab
      · cases hq
    · cases hp
  · rw [List.mem_filterMap]
    constructor
    · rintro ⟨a, -, e⟩
      unfold toldD at e
      split at e
      · rename_i hc; cases e; exact hc
      · cases e
    · rintro ⟨h1, h2⟩
      exact ⟨k, hall k (by rw [h1]; exact fun e => h2 e.symm), by unfold toldD; rw [if_pos ⟨h1, h2⟩]⟩
theorem cb_iff_lt : ∀ a b : List UInt8, Lib.compareBytes a b < 0 ↔ a < b
  | [], [] => by simp [Lib.compareBytes]
  | [], y :: s => by simp [Lib.compareBytes]
  | x :: r, [] => by simp [Lib.compareBytes]
  | x :: r, y :: s => by
    have ih := cb_iff_lt r s
    rw [List.cons_lt_cons_iff]
    simp only [Lib.compareBytes]
    by_cases h1 : x < y
    · simp [h1]
    · by_cases h2 : y < x
      · have h3 : x ≠ y := fun e => by subst e; exact h1 h2
        simp [h1, h2, h3]
      · have h3 : x = y := by
          apply UInt8.toNat_inj.1
          rw [UInt8.lt_iff_toNat_lt] at h1 h2
          omega
        subst h3
        simp [h1, ih]
theorem le_nodup {l : List (List UInt8)} (hs : l.Pairwise (· ≤ ·)) (hn : l.Nodup) : l.Pairwise (fun a b => Lib.compareBytes a b < 0) :=
  (List.pairwise_and_iff.2 ⟨hs, hn⟩).imp fun {a b} ⟨h1, h2⟩ => (cb_iff_lt a b).2 (by
    have h2 : a ≠ b := h2
    exact Classical.byContradiction fun hc => h2 (List.le_antisymm h1 (List.not_lt.1 hc)))
theorem does_sortSX : Does Tryz.prog 57 (orS (sortVSpec strK fun l => l.Pairwise (· ≤ ·)) sortVNil) :=
  have hc : Callable Tryz.prog 57 := ⟨Tryz.f57, Tryz.func57, by kernel_rfl, by decide +kernel⟩
  does_or (does_sortV strK (fun _ => rfl) (fun _ => rfl) hc fun blk cap l w hH hb hl => (Any.slices_Sort_string Tryz.sortStr blk 0 cap l w hH hb hl).mono fun e w' ⟨h1, n, os, h2⟩ => ⟨h1, n, os, _, ⟨List.mergeSort_perm .., by
      have := List.pairwise_mergeSort (le := fun x y : List UInt8 => decide (x ≤ y)) (fun x y z h1 h2 => by simp only [decide_eq_true_eq] at *; exact List.le_trans h1 h2) (fun x y => by simp only [Bool.or_eq_true, decide_eq_true_eq]; exact List.le_total x y) l
      exact this.imp fun h => by simpa using h⟩, h2⟩)
    (does_sortVNil hc fun w => Any.slices_Sort_string_none Tryz.sortStr none 0 w)
end Go.Proofs.Lx
/- A view's changes, exactly: the walk. -/
set_option linter.unusedSimpArgs false
set_option linter.unusedVariables false
namespace Go.Proofs.Lx
open Go.Vm
attribute [local irreducible] awpArr awpBin awpMake awpAppend awpCvX awpStrOf awpBinX awpSlice awpBS awpStore awpAlloc awpCopy awpIndex awpDraw awpIdxX awpFa awpField awpLookup awpUpdate awpDelete awpClear awpRange awpNext awpEntry awpBuild awpClearS awpIdxL awpTree appB awpIdxO eltA treeA
def keysXSpec : Vm.Spec := fun args h Q => ∃ (ic : Nat) (chg : List Ent) (clk : Nat), args = [.mp ic] ∧ h[ic]? = some (.map chg clk) ∧ (∀ e ∈ chg, WfC e) ∧ Born chg clk ∧ chg.length ≤ 1073741824 ∧ (∀ e ∈ chg, (kOf e).length ≤ 32) ∧
  ∀ l : List (List UInt8), l.Perm (chg.map kOf) → l.Pairwise (· ≤ ·) → Q (.own true 9 1 (l.map (vAv strK))) h
set_option maxRecDepth 20000 in
set_option maxHeartbeats 1000000 in
theorem does_keysX : Does Tryz.prog 26 keysXSpec := by
  refine does_of_awp (good_cons does_sortSX good_nil) Tryz.func26 rfl (by decide +kernel) (by decide +kernel) ?_
  rintro args h Q ⟨ic, chg, clk, rfl, g0, hw, hb, hn, hk32, hq⟩
  refine ⟨by simp [Tryz.f26], ?_⟩
  rw [awpFunc_some (by rfl)]
  simp -dsimp only [Vm.G, List.lookup, Nat.reduceAdd, Nat.reduceBEq, Int.reduceBNe, Int.reduceBEq, Nat.reduceLeDiff, q26]
  refine range_intro mt25 chg clk g0 ?_
  simp -dsimp only [Vm.G, List.lookup, Nat.reduceAdd, Nat.reduceBEq, Int.reduceBNe, Int.reduceBEq, Nat.reduceLeDiff, q26]
  refine awp_loop (fun m s h' => ∃ done : List Ent, m = (leftE chg (done.map (·.born))).length ∧ done.length + m ≤ chg.length ∧ h' = h ∧ (∀ d ∈ done, d ∈ chg) ∧ (done.map (·.born)).Nodup ∧ s = mk [(3, .own true 9 1 (((done).map kOf).map (vAv strK))), (6, .iter ic clk ((done).map (·.born)) clk)])
    chg.length _ (le_mk _ ?_) ⟨[], (congrArg List.length (List.filter_eq_self.2 fun _ _ => rfl)).symm, by simp, rfl, by simp, by simp, rfl⟩ ?_
  · simp only [List.forall_mem_cons, List.not_mem_nil, false_imp_iff, implies_true, and_true]
    try simp -dsimp only [Vm.G, List.lookup, Nat.reduceAdd, Nat.reduceBEq, Int.reduceBNe, Int.reduceBEq, Nat.reduceLeDiff, q26]
    repeat' first | exact Fg.refl _ | exact Fg.nil _ _ _ (by decide) | refine And.intro ?_ ?_
  · rintro m s h' ⟨done, rfl, hlen, rfl, hd, hdn, rfl⟩
    simp -dsimp only [Vm.G, List.lookup, Nat.reduceAdd, Nat.reduceBEq, Int.reduceBNe, Int.reduceBEq, Nat.reduceLeDiff, q26]
    refine next_intro chg clk g0 (fun e he => hb.2 e he) (Nat.le_refl _) (fun hlf => ?_) (fun e he => ?_)
    · have hD : done.Perm chg := seen_all hb.1.1 hd hdn hlf
      have hdl := hD.length_eq
      simp -dsimp only [Vm.G, List.lookup, Nat.reduceAdd, Nat.reduceBEq, Int.reduceBNe, Int.reduceBEq, Nat.reduceLeDiff, q26]
      refine call_in _ _ _ ?_
      simp -dsimp only [Vm.G, List.lookup, Nat.reduceAdd, Nat.reduceBEq, Int.reduceBNe, Int.reduceBEq, Nat.reduceLeDiff, q26, callI_eq, ownSl_own, ownSl_alias]
      refine callI_tup (S := orS (sortVSpec strK fun l => l.Pairwise (· ≤ ·)) sortVNil) (fun xs' => ∃ l' : List (List UInt8), xs' = l'.map (vAv strK) ∧ l'.Perm (done.map kOf) ∧ l'.Pairwise (· ≤ ·)) rfl
        (fun xs' hx => ?_) (fun hx => ⟨?_, fun Q' hq' => .inr ⟨rfl, hq'⟩⟩) (fun c hc Q' hq' => .inl ⟨done.map kOf, _, c, 9, by rw [List.length_map], rfl, by rw [List.length_map]; omega, by rw [List.length_map] at hc; exact hc, fun l' hp hs => hq' _ _ ⟨l', rfl, hp, hs⟩ ?_⟩) (fun xs' hx => ?_)
      · obtain ⟨l', rfl, hp, -⟩ := hx
        exact ⟨fun x hx => (hp.map _).mem_iff.1 hx, by rw [List.length_map, List.length_map, hp.length_eq]⟩
      · have hnil : done.map kOf = [] := List.map_eq_nil_iff.1 hx
        exact ⟨[], rfl, by rw [hnil], .nil⟩
      · rw [List.take_of_length_le]
        rw [flat_v, List.length_map, Nat.mul_one]
        exact Nat.le_refl _
      · obtain ⟨l', rfl, hp, hs⟩ := hx
        simp -dsimp only [Vm.G, List.lookup, Nat.reduceAdd, Nat.reduceBEq, Int.reduceBNe, Int.reduceBEq, Nat.reduceLeDiff, q26]
        exact hq l' (hp.trans (hD.map kOf)) hs
    · obtain ⟨hem, heb⟩ := left_mem he
      obtain ⟨⟨k, hk⟩, x, l, b, hx, hl, hev⟩ := hw e hem
      obtain ⟨hd2, hdn2⟩ := done_more he hd hdn
      have hless := left_less he
      have emap : (done ++ [e]).map (·.born) = done.map (·.born) ++ [e.born] := by simp
      have hkk := kOf_eq hk
      simp -dsimp only [Vm.G, List.lookup, Nat.reduceAdd, Nat.reduceBEq, Int.reduceBNe, Int.reduceBEq, Nat.reduceLeDiff, q26]
      refine entry_intro chg clk e g0 (find_born hb.1.1 hem) ?_
      simp only [hk, strK]
      simp -dsimp only [Vm.G, List.lookup, Nat.reduceAdd, Nat.reduceBEq, Int.reduceBNe, Int.reduceBEq, Nat.reduceLeDiff, q26]
      refine bs_intro zr9 (by decide) (by decide) rfl rfl (by simp [solid, AV.cells]) ?_
      simp -dsimp only [Vm.G, List.lookup, Nat.reduceAdd, Nat.reduceBEq, Int.reduceBNe, Int.reduceBEq, Nat.reduceLeDiff, q26]
      refine app_sl Tryz.underlying65 (by simp [AV.cells]) (by simp only [List.length_map, List.length_cons, List.length_nil]; omega) ?_
      simp -dsimp only [Vm.G, List.lookup, Nat.reduceAdd, Nat.reduceBEq, Int.reduceBNe, Int.reduceBEq, Nat.reduceLeDiff, q26]
      refine kept_intro ⟨_, hless, _, le_mk [(3, .own true 9 1 (((done ++ [e]).map kOf).map (vAv strK))), (6, .iter ic clk ((done ++ [e]).map (·.born)) clk)] ?_, done ++ [e], by rw [emap], by rw [List.length_append]; simp only [List.length_cons, List.length_nil]; omega, rfl, hd2, hdn2, rfl⟩
      simp only [List.forall_mem_cons, List.not_mem_nil, false_imp_iff, implies_true, and_true, List.map_append, List.map_cons, List.map_nil, hkk, vAv, strK]
      try simp -dsimp only [Vm.G, List.lookup, Nat.reduceAdd, Nat.reduceBEq, Int.reduceBNe, Int.reduceBEq, Nat.reduceLeDiff, q26, List.map_append, List.map_cons, List.map_nil, hkk, vAv, strK]
      repeat' first | exact Fg.refl _ | exact Fg.nil _ _ _ (by decide) | refine And.intro ?_ ?_
def wasXSpec : Vm.Spec := fun args h Q => ∃ (iv ic im : Nat) (mem : List Ent) (clk : Nat) (k : List UInt8), args = [.ptr iv 0, .sl 1 (k.map encB)] ∧ h[iv]? = some (vobj ic im) ∧ h[im]? = some (.map mem clk) ∧ (∀ e ∈ mem, WfM e) ∧
  (∀ l, memOf mem k = some l → Q (.tup [.sl 1 (l.map encB), .v (.bool true)]) h) ∧ (memOf mem k = none → Q (.tup [.sl 1 (([] : List UInt8).map encB), .v (.bool false)]) h)
theorem does_wasX : Does Tryz.prog 24 wasXSpec := by
  refine does_vwas.weak.imp ?_
  rintro args h Q ⟨iv, ic, im, mem, clk, k, rfl, h1, h2, hw, hq1, hq2⟩
  refine ⟨iv, ic, im, mem, clk, k, rfl, h1, h2, hw, fun e he => ?_, fun he => ?_⟩
  · obtain ⟨-, l, hx, -⟩ := hw e (mget_mem he)
    have hm : memOf mem k = some l := by
      unfold memOf
      rw [he]
      exact congrArg some (bytesOf_isB hx)
    exact ⟨_, .tup (.cons hx.ga GaL.rfl), hq1 l hm⟩
  · have hm : memOf mem k = none := by
      unfold memOf
      rw [he]; rfl
    exact ⟨_, .tup (.cons (.nil 1) GaL.rfl), hq2 hm⟩
theorem lookup_shapeX {t kt et : TypeId} {P : Program} {id : Nat} {h : Heap} {K : AV → Prop} {z : Value} (hm : MapT P t kt et .string) (hz : (P.info? et).bind (·.zero) = some z) (chg : List Ent) (clk : Nat) (hh : h[id]? = some (.map chg clk)) (hw : ∀ e ∈ chg, WfC e) (k : List UInt8) (hin : mget (strK k) chg ≠ none)
    (hK : ∀ x l b, isB x l → l.length ≤ 120 → (∀ mem, nowOf chg mem k = if b = true then none else some l) → K (.agg [x, .v (.bool b)])) : awpLookup P t (.mp id) (.v (.string ⟨k.toArray⟩)) false h K := by
  refine lookup_intro hm hz chg clk hh trivial (keys_str fun e he => (hw e he).1) (fun e he => ?_) (fun he => absurd he hin)
  have he : mget (strK k) chg = some e := he
  obtain ⟨-, x, l, b, hx, hl, hev⟩ := hw e (mget_mem he)
  show K e.val
  rw [hev]
  refine hK x l b hx hl fun mem => ?_
  unfold nowOf
  rw [he]
  simp only [hev]
  cases b
  · show some (bytesOf x) = some l
    rw [bytesOf_isB hx]
  · rfl
theorem mget_in {es : List Ent} {e : Ent} (he : e ∈ es) {k : List UInt8} (hk : e.key = strK k) : mget (strK k) es ≠ none := by
  unfold mget
  rw [ne_eq, List.find?_eq_none]
  intro h
  have := h e he
  rw [hk, keyEq_str] at this
  simp at this
theorem mget_key {es : List Ent} {e : Ent} {k kk : List UInt8} (h : mget (strK k) es = some e) (hk : e.key = strK kk) : kk = k := by
  unfold mget at h
  have := List.find?_some h
  rw [hk, keyEq_str] at this
  exact (by simpa using this : k = kk).symm
def changesXSpec : Vm.Spec := fun args h Q => ∃ (V : VId) (f g : Fun), args = [.ptr V.iv 0] ∧ isView h V f ∧ memV h V g ∧ f.n ≤ 536870912 ∧ ∀ (p : List KV) (d : List (List UInt8)), IsPuts f g p → IsDels f g d → Q (.tup [.sl 2 (p.map kvAv), .sl 1 (d.map fun k => .sl 1 (k.map encB))]) h
set_option maxRecDepth 20000 in
set_option maxHeartbeats 8000000 in
theorem does_changesX : Does Tryz.prog 7 changesXSpec := by
  refine does_of_awp (good_cons does_vready (good_cons does_keysX (good_cons does_wasX (good_cons does_equal (good_cons does_cloneW good_nil))))) Tryz.func7 rfl (by decide +kernel) (by decide +kernel) ?_
  rintro args h Q ⟨V, f, g, rfl, ⟨chg, clk, mem, clk2, h1, h2, h3, h4, h5, h6, h7, hlen, hk32⟩, ⟨mem2, clk3, m1, m2, -⟩, hfn, hq⟩
  refine ⟨by simp [Tryz.f7], ?_⟩
  rw [awpFunc_some (by rfl)]
  have hgm : ∀ k, g k = memOf mem k := by
    rw [h3] at m1
    cases m1
    exact m2
  clear m1 m2
  simp -dsimp only [Vm.G, List.lookup, Nat.reduceAdd, Nat.reduceBEq, Int.reduceBNe, Int.reduceBEq, Nat.reduceLeDiff, q7]
  refine call_one (S := vreadySpec) rfl _ GaL.rfl ⟨V.iv, V.ic, _, rfl, h1, ?_⟩
  simp -dsimp only [Vm.G, List.lookup, Nat.reduceAdd, Nat.reduceBEq, Int.reduceBNe, Int.reduceBEq, Nat.reduceLeDiff, q7, h1]
  refine call_one (S := keysXSpec) rfl _ GaL.rfl ⟨V.ic, chg, clk, rfl, h2, h5.1, h6.1, by omega, fun e he => hk32 e (.inl he), fun ks hkp hkss => ?_⟩
  have hkl : ks.length = chg.length := by rw [hkp.length_eq, List.length_map]
  have hks32 : ∀ k ∈ ks, k.length ≤ 32 := fun k hk => by
    obtain ⟨e, he, rfl⟩ := List.mem_map.1 (hkp.mem_iff.1 hk)
    exact hk32 e (.inl he)
  have hks2 := le_nodup hkss (hkp.nodup_iff.2 h6.1.1.2)
  have hin : ∀ k ∈ ks, mget (strK k) chg ≠ none := fun k hk => by
    obtain ⟨e, he, rfl⟩ := List.mem_map.1 (hkp.mem_iff.1 hk)
    obtain ⟨kk, hkk⟩ := (h5.1 e he).1
    rw [kOf_eq hkk]
    exact mget_in he hkk
  have hall : ∀ k, f k ≠ g k → k ∈ ks := fun k hne => Classical.byContradiction fun hno => hne (by
    rw [h7 k, hgm k]
    unfold nowOf
    cases hm : mget (strK k) chg with
    | none => rfl
    | some e =>
      obtain ⟨kk, hkk⟩ := (h5.1 e (mget_mem hm)).1
      refine absurd (hkp.mem_iff.2 (List.mem_map.2 ⟨e, mget_mem hm, ?_⟩)) hno
      rw [kOf_eq hkk]
      exact mget_key hm hkk)
  have hpi := puts_is (f := f) (g := g) hks2 hall
  have hdi := dels_is (f := f) (g := g) hks2 hall
  simp -dsimp only [Vm.G, List.lookup, Nat.reduceAdd, Nat.reduceBEq, Int.reduceBNe, Int.reduceBEq, Nat.reduceLeDiff, q7]
  refine awp_loop (fun m s h' => ∃ (i : Nat) (pu : List KV) (de : List (List UInt8)), i + m = ks.length ∧ h' = h ∧ pu.length ≤ i ∧ de.length ≤ i ∧ (ks.take i).filterMap (toldP f g) = pu ∧ (ks.take i).filterMap (toldD f g) = de ∧ s = mk [(0, .ptr V.iv 0), (4, .own true 68 2 ((pu).map kvAv)), (5, .own true 22 1 ((de).map fun k => AV.sl 1 (k.map encB))), (18, .own true 9 1 (ks.map (vAv strK))), (19, .v (.int .i64 ks.length)), (20, .v (.int .i64 (i : Nat)))])
    ks.length _ (le_mk _ ?_) ⟨0, [], [], by omega, rfl, by simp, by simp, rfl, rfl, rfl⟩ ?_
  · simp only [List.forall_mem_cons, List.not_mem_nil, false_imp_iff, implies_true, and_true]
    try simp -dsimp only [Vm.G, List.lookup, Nat.reduceAdd, Nat.reduceBEq, Int.reduceBNe, Int.reduceBEq, Nat.reduceLeDiff, q7]
    repeat' first | exact Fg.refl _ | exact Fg.nil _ _ _ (by decide) | refine And.intro ?_ ?_
  · rintro m s h' ⟨i, pu, de, hi, rfl, hpu, hde, hpe, hdee, rfl⟩
    simp -dsimp only [Vm.G, List.lookup, Nat.reduceAdd, Nat.reduceBEq, Int.reduceBNe, Int.reduceBEq, Nat.reduceLeDiff, q7]
    refine cond_intro (fun hcc => ?_) (fun hcc => ?_)
    · have hlt : i < ks.length := by have := of_decide_eq_true hcc; omega
      have hw2 : IntKind.i64.wrap ((i : Int) + 1) = ((i + 1 : Nat) : Int) := by rw [wrap_i64 (by omega) (by omega)]; simp
      have hgi : (ks.map (vAv strK))[i]? = some (vAv strK ks[i]) := by rw [List.getElem?_map, List.getElem?_eq_getElem hlt]; rfl
      have hk3 := hks32 ks[i] (List.getElem_mem hlt)
      have hkin := hin ks[i] (List.getElem_mem hlt)
      have hP : (ks.take (i + 1)).filterMap (toldP f g) = pu ++ (toldP f g ks[i]).toList := by
        rw [List.take_succ_eq_append_getElem hlt, List.filterMap_append, hpe]
        congr 1
      have hD : (ks.take (i + 1)).filterMap (toldD f g) = de ++ (toldD f g ks[i]).toList := by
        rw [List.take_succ_eq_append_getElem hlt, List.filterMap_append, hdee]
        congr 1
      generalize ks[i] = k at hgi hk3 hkin hP hD
      have hgmk := hgm k
      have hks : (ByteArray.mk k.toArray).size ≤ maxLen := by
        have : (ByteArray.mk k.toArray).size = k.length := by simp [ByteArray.size]
        rw [this]; unfold maxLen; omega
      have hkd : (ByteArray.mk k.toArray).data.toList = k := by simp
      simp -dsimp only [Vm.G, List.lookup, Nat.reduceAdd, Nat.reduceBEq, Int.reduceBNe, Int.reduceBEq, Nat.reduceLeDiff, q7]
      refine idxO_intro (xs := ks.map (vAv strK)) (by omega) (by simp; omega) ?_
      simp -dsimp only [Vm.G, List.lookup, Nat.reduceAdd, Nat.reduceBEq, Int.reduceBNe, Int.reduceBEq, Nat.reduceLeDiff, q7, Int.toNat_natCast]
      refine eltA_intro (xs := ks.map (vAv strK)) hgi ?_
      simp -dsimp only [Vm.G, List.lookup, Nat.reduceAdd, Nat.reduceBEq, Int.reduceBNe, Int.reduceBEq, Nat.reduceLeDiff, q7, vAv, strK, AV.cells, List.drop_zero, h1]
      refine lookup_shapeX mt25 z62 chg clk h2 h5.1 k hkin (fun x l b hx hl hnow => ?_)
      have hfk := (h7 k).trans (hnow mem)
      have hg := hx.ga
      rcases hx with rfl | ⟨hl0, rfl⟩
      · simp -dsimp only [Vm.G, List.lookup, Nat.reduceAdd, Nat.reduceBEq, Int.reduceBNe, Int.reduceBEq, Nat.reduceLeDiff, q7]
        refine cvX_bytes bt22 Tryz.underlying9 hks ?_
        simp -dsimp only [Vm.G, List.lookup, Nat.reduceAdd, Nat.reduceBEq, Int.reduceBNe, Int.reduceBEq, Nat.reduceLeDiff, q7, hkd]
        refine call_one (S := wasXSpec) rfl _ GaL.rfl ⟨V.iv, V.ic, V.im, mem, clk2, k, rfl, h1, h3, h5.2, fun old hw => ?_, fun hw => ?_⟩
        · have hgk := hgmk.trans hw
          cases b
          · have hfk : f k = some l := by simpa using hfk
            simp -dsimp only [Vm.G, List.lookup, Nat.reduceAdd, Nat.reduceBEq, Int.reduceBNe, Int.reduceBEq, Nat.reduceLeDiff, q7]
            refine call_one (S := equalSpec) rfl _ (GaL.cons (.refl _) (GaL.cons hg .nil)) ⟨old, _, rfl, ?_⟩
            have he := Bool.eq_false_or_eq_true (old == l)
            rcases he with c | c
            · have hol : old = l := by simpa using c
              simp -dsimp only [Vm.G, List.lookup, Nat.reduceAdd, Nat.reduceBEq, Int.reduceBNe, Int.reduceBEq, Nat.reduceLeDiff, q7, c]
              refine kept_intro ⟨ks.length - (i + 1), by omega, _, le_mk [(0, .ptr V.iv 0), (4, .own true 68 2 ((pu).map kvAv)), (5, .own true 22 1 ((de).map fun k => AV.sl 1 (k.map encB))), (18, .own true 9 1 (ks.map (vAv strK))), (19, .v (.int .i64 ks.length)), (20, .v (.int .i64 (i + 1 : Nat)))] ?_, i + 1, _, _, by omega, rfl, by omega, by omega, by rw [hP]; simp [toldP, hfk, hgk, hol], by rw [hD]; simp [toldD, hfk, hgk], rfl⟩
              simp only [List.forall_mem_cons, List.not_mem_nil, false_imp_iff, implies_true, and_true, hw2, List.map_append, List.map_cons, List.map_nil, kvAv]
              try simp -dsimp only [Vm.G, List.lookup, Nat.reduceAdd, Nat.reduceBEq, Int.reduceBNe, Int.reduceBEq, Nat.reduceLeDiff, q7, hw2, List.map_append, List.map_cons, List.map_nil, kvAv]
              repeat' first | exact Fg.refl _ | exact Fg.nil _ _ _ (by decide) | refine And.intro ?_ ?_
            · have hol : ¬ old = l := by simpa using c
              simp -dsimp only [Vm.G, List.lookup, Nat.reduceAdd, Nat.reduceBEq, Int.reduceBNe, Int.reduceBEq, Nat.reduceLeDiff, q7, c]
              refine cvX_bytes bt22 Tryz.underlying9 hks ?_
              simp -dsimp only [Vm.G, List.lookup, Nat.reduceAdd, Nat.reduceBEq, Int.reduceBNe, Int.reduceBEq, Nat.reduceLeDiff, q7, hkd]
              refine call_one (S := cloneWSpec) rfl _ (GaL.cons hg .nil) ⟨l, by omega, rfl, ?_, ?_⟩
              · simp -dsimp only [Vm.G, List.lookup, Nat.reduceAdd, Nat.reduceBEq, Int.reduceBNe, Int.reduceBEq, Nat.reduceLeDiff, q7]
                refine bs_intro zr68 (by decide) (by decide) rfl rfl (by simp [solid, AV.cells]) ?_
                simp -dsimp only [Vm.G, List.lookup, Nat.reduceAdd, Nat.reduceBEq, Int.reduceBNe, Int.reduceBEq, Nat.reduceLeDiff, q7]
                refine app_sl Tryz.underlying33 (by simp [AV.cells]) (by simp only [List.length_map, List.length_cons, List.length_nil]; omega) ?_
                simp -dsimp only [Vm.G, List.lookup, Nat.reduceAdd, Nat.reduceBEq, Int.reduceBNe, Int.reduceBEq, Nat.reduceLeDiff, q7]
                refine kept_intro ⟨ks.length - (i + 1), by omega, _, le_mk [(0, .ptr V.iv 0), (4, .own true 68 2 ((pu ++ [(k, l)]).map kvAv)), (5, .own true 22 1 ((de).map fun k => AV.sl 1 (k.map encB))), (18, .own true 9 1 (ks.map (vAv strK))), (19, .v (.int .i64 ks.length)), (20, .v (.int .i64 (i + 1 : Nat)))] ?_, i + 1, _, _, by omega, rfl, by exact len_snoc hpu, by omega, by rw [hP]; simp [toldP, hfk, hgk, hol], by rw [hD]; simp [toldD, hfk, hgk], rfl⟩
                simp only [List.forall_mem_cons, List.not_mem_nil, false_imp_iff, implies_true, and_true, hw2, List.map_append, List.map_cons, List.map_nil, kvAv]
                try simp -dsimp only [Vm.G, List.lookup, Nat.reduceAdd, Nat.reduceBEq, Int.reduceBNe, Int.reduceBEq, Nat.reduceLeDiff, q7, hw2, List.map_append, List.map_cons, List.map_nil, kvAv]
                repeat' first | exact Fg.refl _ | exact Fg.nil _ _ _ (by decide) | refine And.intro ?_ ?_
              · simp -dsimp only [Vm.G, List.lookup, Nat.reduceAdd, Nat.reduceBEq, Int.reduceBNe, Int.reduceBEq, Nat.reduceLeDiff, q7]
                refine bs_intro zr68 (by decide) (by decide) rfl rfl (by simp [solid, AV.cells]) ?_
                simp -dsimp only [Vm.G, List.lookup, Nat.reduceAdd, Nat.reduceBEq, Int.reduceBNe, Int.reduceBEq, Nat.reduceLeDiff, q7]
                refine app_sl Tryz.underlying33 (by simp [AV.cells]) (by simp only [List.length_map, List.length_cons, List.length_nil]; omega) ?_
                simp -dsimp only [Vm.G, List.lookup, Nat.reduceAdd, Nat.reduceBEq, Int.reduceBNe, Int.reduceBEq, Nat.reduceLeDiff, q7]
                refine kept_intro ⟨ks.length - (i + 1), by omega, _, le_mk [(0, .ptr V.iv 0), (4, .own true 68 2 ((pu ++ [(k, l)]).map kvAv)), (5, .own true 22 1 ((de).map fun k => AV.sl 1 (k.map encB))), (18, .own true 9 1 (ks.map (vAv strK))), (19, .v (.int .i64 ks.length)), (20, .v (.int .i64 (i + 1 : Nat)))] ?_, i + 1, _, _, by omega, rfl, by exact len_snoc hpu, by omega, by rw [hP]; simp [toldP, hfk, hgk, hol], by rw [hD]; simp [toldD, hfk, hgk], rfl⟩
                simp only [List.forall_mem_cons, List.not_mem_nil, false_imp_iff, implies_true, and_true, hw2, List.map_append, List.map_cons, List.map_nil, kvAv]
                try simp -dsimp only [Vm.G, List.lookup, Nat.reduceAdd, Nat.reduceBEq, Int.reduceBNe, Int.reduceBEq, Nat.reduceLeDiff, q7, hw2, List.map_append, List.map_cons, List.map_nil, kvAv]
                repeat' first | exact Fg.refl _ | exact Fg.nil _ _ _ (by decide) | refine And.intro ?_ ?_
          · have hfk : f k = none := by simpa using hfk
            simp -dsimp only [Vm.G, List.lookup, Nat.reduceAdd, Nat.reduceBEq, Int.reduceBNe, Int.reduceBEq, Nat.reduceLeDiff, q7]
            refine cvX_bytes bt22 Tryz.underlying9 hks ?_
            simp -dsimp only [Vm.G, List.lookup, Nat.reduceAdd, Nat.reduceBEq, Int.reduceBNe, Int.reduceBEq, Nat.reduceLeDiff, q7, hkd]
            refine bs_intro zr22 (by decide) (by decide) rfl rfl (by simp [solid, AV.cells]) ?_
            simp -dsimp only [Vm.G, List.lookup, Nat.reduceAdd, Nat.reduceBEq, Int.reduceBNe, Int.reduceBEq, Nat.reduceLeDiff, q7]
            refine app_sl Tryz.underlying34 (by simp [AV.cells]) (by simp only [List.length_map, List.length_cons, List.length_nil]; omega) ?_
            simp -dsimp only [Vm.G, List.lookup, Nat.reduceAdd, Nat.reduceBEq, Int.reduceBNe, Int.reduceBEq, Nat.reduceLeDiff, q7]
            refine kept_intro ⟨ks.length - (i + 1), by omega, _, le_mk [(0, .ptr V.iv 0), (4, .own true 68 2 ((pu).map kvAv)), (5, .own true 22 1 ((de ++ [k]).map fun k => AV.sl 1 (k.map encB))), (18, .own true 9 1 (ks.map (vAv strK))), (19, .v (.int .i64 ks.length)), (20, .v (.int .i64 (i + 1 : Nat)))] ?_, i + 1, _, _, by omega, rfl, by omega, by exact len_snoc hde, by rw [hP]; simp [toldP, hfk, hgk], by rw [hD]; simp [toldD, hfk, hgk], rfl⟩
            simp only [List.forall_mem_cons, List.not_mem_nil, false_imp_iff, implies_true, and_true, hw2, List.map_append, List.map_cons, List.map_nil, kvAv]
            try simp -dsimp only [Vm.G, List.lookup, Nat.reduceAdd, Nat.reduceBEq, Int.reduceBNe, Int.reduceBEq, Nat.reduceLeDiff, q7, hw2, List.map_append, List.map_cons, List.map_nil, kvAv]
            repeat' first | exact Fg.refl _ | exact Fg.nil _ _ _ (by decide) | refine And.intro ?_ ?_
        · have hgk := hgmk.trans hw
          cases b
          · have hfk : f k = some l := by simpa using hfk
            simp -dsimp only [Vm.G, List.lookup, Nat.reduceAdd, Nat.reduceBEq, Int.reduceBNe, Int.reduceBEq, Nat.reduceLeDiff, q7]
            refine cvX_bytes bt22 Tryz.underlying9 hks ?_
            simp -dsimp only [Vm.G, List.lookup, Nat.reduceAdd, Nat.reduceBEq, Int.reduceBNe, Int.reduceBEq, Nat.reduceLeDiff, q7, hkd]
            refine call_one (S := cloneWSpec) rfl _ (GaL.cons hg .nil) ⟨l, by omega, rfl, ?_, ?_⟩
            · simp -dsimp only [Vm.G, List.lookup, Nat.reduceAdd, Nat.reduceBEq, Int.reduceBNe, Int.reduceBEq, Nat.reduceLeDiff, q7]
              refine bs_intro zr68 (by decide) (by decide) rfl rfl (by simp [solid, AV.cells]) ?_
              simp -dsimp only [Vm.G, List.lookup, Nat.reduceAdd, Nat.reduceBEq, Int.reduceBNe, Int.reduceBEq, Nat.reduceLeDiff, q7]
              refine app_sl Tryz.underlying33 (by simp [AV.cells]) (by simp only [List.length_map, List.length_cons, List.length_nil]; omega) ?_
              simp -dsimp only [Vm.G, List.lookup, Nat.reduceAdd, Nat.reduceBEq, Int.reduceBNe, Int.reduceBEq, Nat.reduceLeDiff, q7]
              refine kept_intro ⟨ks.length - (i + 1), by omega, _, le_mk [(0, .ptr V.iv 0), (4, .own true 68 2 ((pu ++ [(k, l)]).map kvAv)), (5, .own true 22 1 ((de).map fun k => AV.sl 1 (k.map encB))), (18, .own true 9 1 (ks.map (vAv strK))), (19, .v (.int .i64 ks.length)), (20, .v (.int .i64 (i + 1 : Nat)))] ?_, i + 1, _, _, by omega, rfl, by exact len_snoc hpu, by omega, by rw [hP]; simp [toldP, hfk, hgk], by rw [hD]; simp [toldD, hfk, hgk], rfl⟩
              simp only [List.forall_mem_cons, List.not_mem_nil, false_imp_iff, implies_true, and_true, hw2, List.map_append, List.map_cons, List.map_nil, kvAv]
              try simp -dsimp only [Vm.G, List.lookup, Nat.reduceAdd, Nat.reduceBEq, Int.reduceBNe, Int.reduceBEq, Nat.reduceLeDiff, q7, hw2, List.map_append, List.map_cons, List.map_nil, kvAv]
              repeat' first | exact Fg.refl _ | exact Fg.nil _ _ _ (by decide) | refine And.intro ?_ ?_
            · simp -dsimp only [Vm.G, List.lookup, Nat.reduceAdd, Nat.reduceBEq, Int.reduceBNe, Int.reduceBEq, Nat.reduceLeDiff, q7]
              refine bs_intro zr68 (by decide) (by decide) rfl rfl (by simp [solid, AV.cells]) ?_
              simp -dsimp only [Vm.G, List.lookup, Nat.reduceAdd, Nat.reduceBEq, Int.reduceBNe, Int.reduceBEq, Nat.reduceLeDiff, q7]
              refine app_sl Tryz.underlying33 (by simp [AV.cells]) (by simp only [List.length_map, List.length_cons, List.length_nil]; omega) ?_
              simp -dsimp only [Vm.G, List.lookup, Nat.reduceAdd, Nat.reduceBEq, Int.reduceBNe, Int.reduceBEq, Nat.reduceLeDiff, q7]
              refine kept_intro ⟨ks.length - (i + 1), by omega, _, le_mk [(0, .ptr V.iv 0), (4, .own true 68 2 ((pu ++ [(k, l)]).map kvAv)), (5, .own true 22 1 ((de).map fun k => AV.sl 1 (k.map encB))), (18, .own true 9 1 (ks.map (vAv strK))), (19, .v (.int .i64 ks.length)), (20, .v (.int .i64 (i + 1 : Nat)))] ?_, i + 1, _, _, by omega, rfl, by exact len_snoc hpu, by omega, by rw [hP]; simp [toldP, hfk, hgk], by rw [hD]; simp [toldD, hfk, hgk], rfl⟩
              simp only [List.forall_mem_cons, List.not_mem_nil, false_imp_iff, implies_true, and_true, hw2, List.map_append, List.map_cons, List.map_nil, kvAv]
              try simp -dsimp only [Vm.G, List.lookup, Nat.reduceAdd, Nat.reduceBEq, Int.reduceBNe, Int.reduceBEq, Nat.reduceLeDiff, q7, hw2, List.map_append, List.map_cons, List.map_nil, kvAv]
              repeat' first | exact Fg.refl _ | exact Fg.nil _ _ _ (by decide) | refine And.intro ?_ ?_
          · have hfk : f k = none := by simpa using hfk
            simp -dsimp only [Vm.G, List.lookup, Nat.reduceAdd, Nat.reduceBEq, Int.reduceBNe, Int.reduceBEq, Nat.reduceLeDiff, q7]
            refine kept_intro ⟨ks.length - (i + 1), by omega, _, le_mk [(0, .ptr V.iv 0), (4, .own true 68 2 ((pu).map kvAv)), (5, .own true 22 1 ((de).map fun k => AV.sl 1 (k.map encB))), (18, .own true 9 1 (ks.map (vAv strK))), (19, .v (.int .i64 ks.length)), (20, .v (.int .i64 (i + 1 : Nat)))] ?_, i + 1, _, _, by omega, rfl, by omega, by omega, by rw [hP]; simp [toldP, hfk, hgk], by rw [hD]; simp [toldD, hfk, hgk], rfl⟩
            simp only [List.forall_mem_cons, List.not_mem_nil, false_imp_iff, implies_true, and_true, hw2, List.map_append, List.map_cons, List.map_nil, kvAv]
            try simp -dsimp only [Vm.G, List.lookup, Nat.reduceAdd, Nat.reduceBEq, Int.reduceBNe, Int.reduceBEq, Nat.reduceLeDiff, q7, hw2, List.map_append, List.map_cons, List.map_nil, kvAv]
            repeat' first | exact Fg.refl _ | exact Fg.nil _ _ _ (by decide) | refine And.intro ?_ ?_
      · simp -dsimp only [Vm.G, List.lookup, Nat.reduceAdd, Nat.reduceBEq, Int.reduceBNe, Int.reduceBEq, Nat.reduceLeDiff, q7]
        refine cvX_bytes bt22 Tryz.underlying9 hks ?_
        simp -dsimp only [Vm.G, List.lookup, Nat.reduceAdd, Nat.reduceBEq, Int.reduceBNe, Int.reduceBEq, Nat.reduceLeDiff, q7, hkd]
        refine call_one (S := wasXSpec) rfl _ GaL.rfl ⟨V.iv, V.ic, V.im, mem, clk2, k, rfl, h1, h3, h5.2, fun old hw => ?_, fun hw => ?_⟩
        · have hgk := hgmk.trans hw
          cases b
          · have hfk : f k = some l := by simpa using hfk
            simp -dsimp only [Vm.G, List.lookup, Nat.reduceAdd, Nat.reduceBEq, Int.reduceBNe, Int.reduceBEq, Nat.reduceLeDiff, q7]
            refine call_one (S := equalSpec) rfl _ (GaL.cons (.refl _) (GaL.cons hg .nil)) ⟨old, _, rfl, ?_⟩
            have he := Bool.eq_false_or_eq_true (old == l)
            rcases he with c | c
            · have hol : old = l := by simpa using c
              simp -dsimp only [Vm.G, List.lookup, Nat.reduceAdd, Nat.reduceBEq, Int.reduceBNe, Int.reduceBEq, Nat.reduceLeDiff, q7, c]
              refine kept_intro ⟨ks.length - (i + 1), by omega, _, le_mk [(0, .ptr V.iv 0), (4, .own true 68 2 ((pu).map kvAv)), (5, .own true 22 1 ((de).map fun k => AV.sl 1 (k.map encB))), (18, .own true 9 1 (ks.map (vAv strK))), (19, .v (.int .i64 ks.length)), (20, .v (.int .i64 (i + 1 : Nat)))] ?_, i + 1, _, _, by omega, rfl, by omega, by omega, by rw [hP]; simp [toldP, hfk, hgk, hol], by rw [hD]; simp [toldD, hfk, hgk], rfl⟩
              simp only [List.forall_mem_cons, List.not_mem_nil, false_imp_iff, implies_true, and_true, hw2, List.map_append, List.map_cons, List.map_nil, kvAv]
              try simp -dsimp only [Vm.G, List.lookup, Nat.reduceAdd, Nat.reduceBEq, Int.reduceBNe, Int.reduceBEq, Nat.reduceLeDiff, q7, hw2, List.map_append, List.map_cons, List.map_nil, kvAv]
              repeat' first | exact Fg.refl _ | exact Fg.nil _ _ _ (by decide) | refine And.intro ?_ ?_
            · have hol : ¬ old = l := by simpa using c
              simp -dsimp only [Vm.G, List.lookup, Nat.reduceAdd, Nat.reduceBEq, Int.reduceBNe, Int.reduceBEq, Nat.reduceLeDiff, q7, c]
              refine cvX_bytes bt22 Tryz.underlying9 hks ?_
              simp -dsimp only [Vm.G, List.lookup, Nat.reduceAdd, Nat.reduceBEq, Int.reduceBNe, Int.reduceBEq, Nat.reduceLeDiff, q7, hkd]
              refine call_one (S := cloneWSpec) rfl _ (GaL.cons hg .nil) ⟨l, by omega, rfl, ?_, ?_⟩
              · simp -dsimp only [Vm.G, List.lookup, Nat.reduceAdd, Nat.reduceBEq, Int.reduceBNe, Int.reduceBEq, Nat.reduceLeDiff, q7]
                refine bs_intro zr68 (by decide) (by decide) rfl rfl (by simp [solid, AV.cells]) ?_
                simp -dsimp only [Vm.G, List.lookup, Nat.reduceAdd, Nat.reduceBEq, Int.reduceBNe, Int.reduceBEq, Nat.reduceLeDiff, q7]
                refine app_sl Tryz.underlying33 (by simp [AV.cells]) (by simp only [List.length_map, List.length_cons, List.length_nil]; omega) ?_
                simp -dsimp only [Vm.G, List.lookup, Nat.reduceAdd, Nat.reduceBEq, Int.reduceBNe, Int.reduceBEq, Nat.reduceLeDiff, q7]
                refine kept_intro ⟨ks.length - (i + 1), by omega, _, le_mk [(0, .ptr V.iv 0), (4, .own true 68 2 ((pu ++ [(k, l)]).map kvAv)), (5, .own true 22 1 ((de).map fun k => AV.sl 1 (k.map encB))), (18, .own true 9 1 (ks.map (vAv strK))), (19, .v (.int .i64 ks.length)), (20, .v (.int .i64 (i + 1 : Nat)))] ?_, i + 1, _, _, by omega, rfl, by exact len_snoc hpu, by omega, by rw [hP]; simp [toldP, hfk, hgk, hol], by rw [hD]; simp [toldD, hfk, hgk], rfl⟩
                simp only [List.forall_mem_cons, List.not_mem_nil, false_imp_iff, implies_true, and_true, hw2, List.map_append, List.map_cons, List.map_nil, kvAv]
                try simp -dsimp only [Vm.G, List.lookup, Nat.reduceAdd, Nat.reduceBEq, Int.reduceBNe, Int.reduceBEq, Nat.reduceLeDiff, q7, hw2, List.map_append, List.map_cons, List.map_nil, kvAv]
                repeat' first | exact Fg.refl _ | exact Fg.nil _ _ _ (by decide) | refine And.intro ?_ ?_
              · simp -dsimp only [Vm.G, List.lookup, Nat.reduceAdd, Nat.reduceBEq, Int.reduceBNe, Int.reduceBEq, Nat.reduceLeDiff, q7]
                refine bs_intro zr68 (by decide) (by decide) rfl rfl (by simp [solid, AV.cells]) ?_
                simp -dsimp only [Vm.G, List.lookup, Nat.reduceAdd, Nat.reduceBEq, Int.reduceBNe, Int.reduceBEq, Nat.reduceLeDiff, q7]
                refine app_sl Tryz.underlying33 (by simp [AV.cells]) (by simp only [List.length_map, List.length_cons, List.length_nil]; omega) ?_
                simp -dsimp only [Vm.G, List.lookup, Nat.reduceAdd, Nat.reduceBEq, Int.reduceBNe, Int.reduceBEq, Nat.reduceLeDiff, q7]
                refine kept_intro ⟨ks.length - (i + 1), by omega, _, le_mk [(0, .ptr V.iv 0), (4, .own true 68 2 ((pu ++ [(k, l)]).map kvAv)), (5, .own true 22 1 ((de).map fun k => AV.sl 1 (k.map encB))), (18, .own true 9 1 (ks.map (vAv strK))), (19, .v (.int .i64 ks.length)), (20, .v (.int .i64 (i + 1 : Nat)))] ?_, i + 1, _, _, by omega, rfl, by exact len_snoc hpu, by omega, by rw [hP]; simp [toldP, hfk, hgk, hol], by rw [hD]; simp [toldD, hfk, hgk], rfl⟩
                simp only [List.forall_mem_cons, List.not_mem_nil, false_imp_iff, implies_true, and_true, hw2, List.map_append, List.map_cons, List.map_nil, kvAv]
                try simp -dsimp only [Vm.G, List.lookup, Nat.reduceAdd, Nat.reduceBEq, Int.reduceBNe, Int.reduceBEq, Nat.reduceLeDiff, q7, hw2, List.map_append, List.map_cons, List.map_nil, kvAv]
                repeat' first | exact Fg.refl _ | exact Fg.nil _ _ _ (by decide) | refine And.intro ?_ ?_
          · have hfk : f k = none := by simpa using hfk
            simp -dsimp only [Vm.G, List.lookup, Nat.reduceAdd, Nat.reduceBEq, Int.reduceBNe, Int.reduceBEq, Nat.reduceLeDiff, q7]
            refine cvX_bytes bt22 Tryz.underlying9 hks ?_
            simp -dsimp only [Vm.G, List.lookup, Nat.reduceAdd, Nat.reduceBEq, Int.reduceBNe, Int.reduceBEq, Nat.reduceLeDiff, q7, hkd]
            refine bs_intro zr22 (by decide) (by decide) rfl rfl (by simp [solid, AV.cells]) ?_
            simp -dsimp only [Vm.G, List.lookup, Nat.reduceAdd, Nat.reduceBEq, Int.reduceBNe, Int.reduceBEq, Nat.reduceLeDiff, q7]
            refine app_sl Tryz.underlying34 (by simp [AV.cells]) (by simp only [List.length_map, List.length_cons, List.length_nil]; omega) ?_
            simp -dsimp only [Vm.G, List.lookup, Nat.reduceAdd, Nat.reduceBEq, Int.reduceBNe, Int.reduceBEq, Nat.reduceLeDiff, q7]
            refine kept_intro ⟨ks.length - (i + 1), by omega, _, le_mk [(0, .ptr V.iv 0), (4, .own true 68 2 ((pu).map kvAv)), (5, .own true 22 1 ((de ++ [k]).map fun k => AV.sl 1 (k.map encB))), (18, .own true 9 1 (ks.map (vAv strK))), (19, .v (.int .i64 ks.length)), (20, .v (.int .i64 (i + 1 : Nat)))] ?_, i + 1, _, _, by omega, rfl, by omega, by exact len_snoc hde, by rw [hP]; simp [toldP, hfk, hgk], by rw [hD]; simp [toldD, hfk, hgk], rfl⟩
            simp only [List.forall_mem_cons, List.not_mem_nil, false_imp_iff, implies_true, and_true, hw2, List.map_append, List.map_cons, List.map_nil, kvAv]
            try simp -dsimp only [Vm.G, List.lookup, Nat.reduceAdd, Nat.reduceBEq, Int.reduceBNe, Int.reduceBEq, Nat.reduceLeDiff, q7, hw2, List.map_append, List.map_cons, List.map_nil, kvAv]
            repeat' first | exact Fg.refl _ | exact Fg.nil _ _ _ (by decide) | refine And.intro ?_ ?_
        · have hgk := hgmk.trans hw
          cases b
          · have hfk : f k = some l := by simpa using hfk
            simp -dsimp only [Vm.G, List.lookup, Nat.reduceAdd, Nat.reduceBEq, Int.reduceBNe, Int.reduceBEq, Nat.reduceLeDiff, q7]
            refine cvX_bytes bt22 Tryz.underlying9 hks ?_
            simp -dsimp only [Vm.G, List.lookup, Nat.reduceAdd, Nat.reduceBEq, Int.reduceBNe, Int.reduceBEq, Nat.reduceLeDiff, q7, hkd]
            refine call_one (S := cloneWSpec) rfl _ (GaL.cons hg .nil) ⟨l, by omega, rfl, ?_, ?_⟩
            · simp -dsimp only [Vm.G, List.lookup, Nat.reduceAdd, Nat.reduceBEq, Int.reduceBNe, Int.reduceBEq, Nat.reduceLeDiff, q7]
              refine bs_intro zr68 (by decide) (by decide) rfl rfl (by simp [solid, AV.cells]) ?_
              simp -dsimp only [Vm.G, List.lookup, Nat.reduceAdd, Nat.reduceBEq, Int.reduceBNe, Int.reduceBEq, Nat.reduceLeDiff, q7]
              refine app_sl Tryz.underlying33 (by simp [AV.cells]) (by simp only [List.length_map, List.length_cons, List.length_nil]; omega) ?_
              simp -dsimp only [Vm.G, List.lookup, Nat.reduceAdd, Nat.reduceBEq, Int.reduceBNe, Int.reduceBEq, Nat.reduceLeDiff, q7]
              refine kept_intro ⟨ks.length - (i + 1), by omega, _, le_mk [(0, .ptr V.iv 0), (4, .own true 68 2 ((pu ++ [(k, l)]).map kvAv)), (5, .own true 22 1 ((de).map fun k => AV.sl 1 (k.map encB))), (18, .own true 9 1 (ks.map (vAv strK))), (19, .v (.int .i64 ks.length)), (20, .v (.int .i64 (i + 1 : Nat)))] ?_, i + 1, _, _, by omega, rfl, by exact len_snoc hpu, by omega, by rw [hP]; simp [toldP, hfk, hgk], by rw [hD]; simp [toldD, hfk, hgk], rfl⟩
              simp only [List.forall_mem_cons, List.not_mem_nil, false_imp_iff, implies_true, and_true, hw2, List.map_append, List.map_cons, List.map_nil, kvAv]
              try simp -dsimp only [Vm.G, List.lookup, Nat.reduceAdd, Nat.reduceBEq, Int.reduceBNe, Int.reduceBEq, Nat.reduceLeDiff, q7, hw2, List.map_append, List.map_cons, List.map_nil, kvAv]
              repeat' first | exact Fg.refl _ | exact Fg.nil _ _ _ (by decide) | refine And.intro ?_ ?_
            · simp -dsimp only [Vm.G, List.lookup, Nat.reduceAdd, Nat.reduceBEq, Int.reduceBNe, Int.reduceBEq, Nat.reduceLeDiff, q7]
              refine bs_intro zr68 (by decide) (by decide) rfl rfl (by simp [solid, AV.cells]) ?_
              simp -dsimp only [Vm.G, List.lookup, Nat.reduceAdd, Nat.reduceBEq, Int.reduceBNe, Int.reduceBEq, Nat.reduceLeDiff, q7]
              refine app_sl Tryz.underlying33 (by simp [AV.cells]) (by simp only [List.length_map, List.length_cons, List.length_nil]; omega) ?_
              simp -dsimp only [Vm.G, List.lookup, Nat.reduceAdd, Nat.reduceBEq, Int.reduceBNe, Int.reduceBEq, Nat.reduceLeDiff, q7]
              refine kept_intro ⟨ks.length - (i + 1), by omega, _, le_mk [(0, .ptr V.iv 0), (4, .own true 68 2 ((pu ++ [(k, l)]).map kvAv)), (5, .own true 22 1 ((de).map fun k => AV.sl 1 (k.map encB))), (18, .own true 9 1 (ks.map (vAv strK))), (19, .v (.int .i64 ks.length)), (20, .v (.int .i64 (i + 1 : Nat)))] ?_, i + 1, _, _, by omega, rfl, by exact len_snoc hpu, by omega, by rw [hP]; simp [toldP, hfk, hgk], by rw [hD]; simp [toldD, hfk, hgk], rfl⟩
              simp only [List.forall_mem_cons, List.not_mem_nil, false_imp_iff, implies_true, and_true, hw2, List.map_append, List.map_cons, List.map_nil, kvAv]
              try simp -dsimp only [Vm.G, List.lookup, Nat.reduceAdd, Nat.reduceBEq, Int.reduceBNe, Int.reduceBEq, Nat.reduceLeDiff, q7, hw2, List.map_append, List.map_cons, List.map_nil, kvAv]
              repeat' first | exact Fg.refl _ | exact Fg.nil _ _ _ (by decide) | refine And.intro ?_ ?_
          · have hfk : f k = none := by simpa using hfk
            simp -dsimp only [Vm.G, List.lookup, Nat.reduceAdd, Nat.reduceBEq, Int.reduceBNe, Int.reduceBEq, Nat.reduceLeDiff, q7]
            refine kept_intro ⟨ks.length - (i + 1), by omega, _, le_mk [(0, .ptr V.iv 0), (4, .own true 68 2 ((pu).map kvAv)), (5, .own true 22 1 ((de).map fun k => AV.sl 1 (k.map encB))), (18, .own true 9 1 (ks.map (vAv strK))), (19, .v (.int .i64 ks.length)), (20, .v (.int .i64 (i + 1 : Nat)))] ?_, i + 1, _, _, by omega, rfl, by omega, by omega, by rw [hP]; simp [toldP, hfk, hgk], by rw [hD]; simp [toldD, hfk, hgk], rfl⟩
            simp only [List.forall_mem_cons, List.not_mem_nil, false_imp_iff, implies_true, and_true, hw2, List.map_append, List.map_cons, List.map_nil, kvAv]
            try simp -dsimp only [Vm.G, List.lookup, Nat.reduceAdd, Nat.reduceBEq, Int.reduceBNe, Int.reduceBEq, Nat.reduceLeDiff, q7, hw2, List.map_append, List.map_cons, List.map_nil, kvAv]
            repeat' first | exact Fg.refl _ | exact Fg.nil _ _ _ (by decide) | refine And.intro ?_ ?_
    · have hge : ¬ i < ks.length := by have := of_decide_eq_false hcc; omega
      simp -dsimp only [Vm.G, List.lookup, Nat.reduceAdd, Nat.reduceBEq, Int.reduceBNe, Int.reduceBEq, Nat.reduceLeDiff, q7]
      rw [List.take_of_length_le (by omega)] at hpe hdee
      rw [hpe] at hpi
      rw [hdee] at hdi
      exact hq pu de hpi hdi
end Go.Proofs.Lx
/- A view that no call made. -/
set_option linter.unusedSimpArgs false
set_option linter.unusedVariables false
namespace Go.Proofs.Lx
open Go.Vm
attribute [local irreducible] awpArr awpBin awpMake awpAppend awpCvX awpStrOf awpBinX awpSlice awpBS awpStore awpAlloc awpCopy awpIndex awpDraw awpIdxX awpFa awpField awpLookup awpUpdate awpDelete awpClear awpRange awpNext awpEntry awpBuild awpClearS awpIdxL awpTree appB awpIdxO eltA treeA
def zeroV : List AV := [.v (.map none), .v (.pointer none), .v (.map none), .v (.int .i64 0)]
def noView (h : Heap) (v : AV) : Prop := v = nilP ∨ ∃ iv, v = .ptr iv 0 ∧ h[iv]? = some (.cells zeroV)
def noReadySpec : Vm.Spec := fun args h Q => ∃ v, args = [v] ∧ noView h v ∧ Q (.v (.bool false)) h
theorem does_noReady : Does Tryz.prog 23 noReadySpec := by
  refine does_of_awp good_nil Tryz.func23 rfl (by decide +kernel) (by decide +kernel) ?_
  rintro args h Q ⟨v, rfl, hv, hq⟩
  refine ⟨by simp [Tryz.f23], ?_⟩
  rw [awpFunc_some (by rfl)]
  rcases hv with rfl | ⟨iv, rfl, hz⟩
  · unfold nilP
    simp -dsimp only [Vm.G, List.lookup, Nat.reduceAdd, Nat.reduceBEq, Int.reduceBNe, Int.reduceBEq, Nat.reduceLeDiff, q23]
    refine nil_pointer Tryz.underlying23 ?_
    simp -dsimp only [Vm.G, List.lookup, Nat.reduceAdd, Nat.reduceBEq, Int.reduceBNe, Int.reduceBEq, Nat.reduceLeDiff, q23]
    exact hq
  · unfold zeroV at hz
    simp -dsimp only [Vm.G, List.lookup, Nat.reduceAdd, Nat.reduceBEq, Int.reduceBNe, Int.reduceBEq, Nat.reduceLeDiff, q23]
    refine nil_pointer Tryz.underlying23 ?_
    simp -dsimp only [Vm.G, List.lookup, Nat.reduceAdd, Nat.reduceBEq, Int.reduceBNe, Int.reduceBEq, Nat.reduceLeDiff, q23, hz]
    refine nil_map Tryz.underlying25 ?_
    simp -dsimp only [Vm.G, List.lookup, Nat.reduceAdd, Nat.reduceBEq, Int.reduceBNe, Int.reduceBEq, Nat.reduceLeDiff, q23]
    exact hq
def noGetSpec : Vm.Spec := fun args h Q => ∃ (v : AV) (k : List UInt8), args = [v, .sl 1 (k.map encB)] ∧ noView h v ∧ Q (.tup [.v (.slice none 0 0), .v (.bool false)]) h
theorem does_noGet : Does Tryz.prog 6 noGetSpec := by
  refine does_of_awp (good_cons does_noReady good_nil) Tryz.func6 rfl (by decide +kernel) (by decide +kernel) ?_
  rintro args h Q ⟨v, k, rfl, hv, hq⟩
  refine ⟨by simp [Tryz.f6], ?_⟩
  rw [awpFunc_some (by rfl)]
  rcases hv with rfl | ⟨iv, rfl, hz⟩
  · simp -dsimp only [Vm.G, List.lookup, Nat.reduceAdd, Nat.reduceBEq, Int.reduceBNe, Int.reduceBEq, Nat.reduceLeDiff, q6]
    refine call_one (S := noReadySpec) rfl _ GaL.rfl ⟨_, rfl, .inl rfl, ?_⟩
    simp -dsimp only [Vm.G, List.lookup, Nat.reduceAdd, Nat.reduceBEq, Int.reduceBNe, Int.reduceBEq, Nat.reduceLeDiff, q6]
    exact hq
  · simp -dsimp only [Vm.G, List.lookup, Nat.reduceAdd, Nat.reduceBEq, Int.reduceBNe, Int.reduceBEq, Nat.reduceLeDiff, q6]
    refine call_one (S := noReadySpec) rfl _ GaL.rfl ⟨_, rfl, .inr ⟨iv, rfl, hz⟩, ?_⟩
    simp -dsimp only [Vm.G, List.lookup, Nat.reduceAdd, Nat.reduceBEq, Int.reduceBNe, Int.reduceBEq, Nat.reduceLeDiff, q6]
    exact hq
def noPutSpec : Vm.Spec := fun args h Q => ∃ (v : AV) (k x : List UInt8), args = [v, .sl 1 (k.map encB), .sl 1 (x.map encB)] ∧ noView h v ∧ Q (.v (.int .i64 2)) h
theorem does_noPut : Does Tryz.prog 9 noPutSpec := by
  refine does_of_awp (good_cons does_noReady good_nil) Tryz.func9 rfl (by decide +kernel) (by decide +kernel) ?_
  rintro args h Q ⟨v, k, x, rfl, hv, hq⟩
  refine ⟨by simp [Tryz.f9], ?_⟩
  rw [awpFunc_some (by rfl)]
  rcases hv with rfl | ⟨iv, rfl, hz⟩
  · simp -dsimp only [Vm.G, List.lookup, Nat.reduceAdd, Nat.reduceBEq, Int.reduceBNe, Int.reduceBEq, Nat.reduceLeDiff, q9]
    refine call_one (S := noReadySpec) rfl _ GaL.rfl ⟨_, rfl, .inl rfl, ?_⟩
    simp -dsimp only [Vm.G, List.lookup, Nat.reduceAdd, Nat.reduceBEq, Int.reduceBNe, Int.reduceBEq, Nat.reduceLeDiff, q9]
    exact hq
  · simp -dsimp only [Vm.G, List.lookup, Nat.reduceAdd, Nat.reduceBEq, Int.reduceBNe, Int.reduceBEq, Nat.reduceLeDiff, q9]
    refine call_one (S := noReadySpec) rfl _ GaL.rfl ⟨_, rfl, .inr ⟨iv, rfl, hz⟩, ?_⟩
    simp -dsimp only [Vm.G, List.lookup, Nat.reduceAdd, Nat.reduceBEq, Int.reduceBNe, Int.reduceBEq, Nat.reduceLeDiff, q9]
    exact hq
def noScanSpec : Vm.Spec := fun args h Q => ∃ (v : AV) (k : List UInt8), args = [v, .sl 1 (k.map encB)] ∧ noView h v ∧ Q (.v (.slice none 0 0)) h
theorem does_noScan : Does Tryz.prog 11 noScanSpec := by
  refine does_of_awp (good_cons does_noReady good_nil) Tryz.func11 rfl (by decide +kernel) (by decide +kernel) ?_
  rintro args h Q ⟨v, k, rfl, hv, hq⟩
  refine ⟨by simp [Tryz.f11], ?_⟩
  rw [awpFunc_some (by rfl)]
  rcases hv with rfl | ⟨iv, rfl, hz⟩
  · simp -dsimp only [Vm.G, List.lookup, Nat.reduceAdd, Nat.reduceBEq, Int.reduceBNe, Int.reduceBEq, Nat.reduceLeDiff, q11]
    refine call_one (S := noReadySpec) rfl _ GaL.rfl ⟨_, rfl, .inl rfl, ?_⟩
    simp -dsimp only [Vm.G, List.lookup, Nat.reduceAdd, Nat.reduceBEq, Int.reduceBNe, Int.reduceBEq, Nat.reduceLeDiff, q11]
    exact hq
  · simp -dsimp only [Vm.G, List.lookup, Nat.reduceAdd, Nat.reduceBEq, Int.reduceBNe, Int.reduceBEq, Nat.reduceLeDiff, q11]
    refine call_one (S := noReadySpec) rfl _ GaL.rfl ⟨_, rfl, .inr ⟨iv, rfl, hz⟩, ?_⟩
    simp -dsimp only [Vm.G, List.lookup, Nat.reduceAdd, Nat.reduceBEq, Int.reduceBNe, Int.reduceBEq, Nat.reduceLeDiff, q11]
    exact hq
def noChangesSpec : Vm.Spec := fun args h Q => ∃ v : AV, args = [v] ∧ noView h v ∧ Q (.tup [.v (.slice none 0 0), .v (.slice none 0 0)]) h
theorem does_noChanges : Does Tryz.prog 7 noChangesSpec := by
  refine does_of_awp (good_cons does_noReady good_nil) Tryz.func7 rfl (by decide +kernel) (by decide +kernel) ?_
  rintro args h Q ⟨v, rfl, hv, hq⟩
  refine ⟨by simp [Tryz.f7], ?_⟩
  rw [awpFunc_some (by rfl)]
  rcases hv with rfl | ⟨iv, rfl, hz⟩
  · simp -dsimp only [Vm.G, List.lookup, Nat.reduceAdd, Nat.reduceBEq, Int.reduceBNe, Int.reduceBEq, Nat.reduceLeDiff, q7]
    refine call_one (S := noReadySpec) rfl _ GaL.rfl ⟨_, rfl, .inl rfl, ?_⟩
    simp -dsimp only [Vm.G, List.lookup, Nat.reduceAdd, Nat.reduceBEq, Int.reduceBNe, Int.reduceBEq, Nat.reduceLeDiff, q7]
    exact hq
  · simp -dsimp only [Vm.G, List.lookup, Nat.reduceAdd, Nat.reduceBEq, Int.reduceBNe, Int.reduceBEq, Nat.reduceLeDiff, q7]
    refine call_one (S := noReadySpec) rfl _ GaL.rfl ⟨_, rfl, .inr ⟨iv, rfl, hz⟩, ?_⟩
    simp -dsimp only [Vm.G, List.lookup, Nat.reduceAdd, Nat.reduceBEq, Int.reduceBNe, Int.reduceBEq, Nat.reduceLeDiff, q7]
    exact hq
def noCommitSpec : Vm.Spec := fun args h Q => ∃ v : AV, args = [v] ∧ noView h v ∧ Q (.v (.int .i64 2)) h
theorem does_noCommit : Does Tryz.prog 12 noCommitSpec := by
  refine does_of_awp (good_cons does_noReady good_nil) Tryz.func12 rfl (by decide +kernel) (by decide +kernel) ?_
  rintro args h Q ⟨v, rfl, hv, hq⟩
  refine ⟨by simp [Tryz.f12], ?_⟩
  rw [awpFunc_some (by rfl)]
  rcases hv with rfl | ⟨iv, rfl, hz⟩
  · simp -dsimp only [Vm.G, List.lookup, Nat.reduceAdd, Nat.reduceBEq, Int.reduceBNe, Int.reduceBEq, Nat.reduceLeDiff, q12]
    refine call_one (S := noReadySpec) rfl _ GaL.rfl ⟨_, rfl, .inl rfl, ?_⟩
    simp -dsimp only [Vm.G, List.lookup, Nat.reduceAdd, Nat.reduceBEq, Int.reduceBNe, Int.reduceBEq, Nat.reduceLeDiff, q12]
    exact hq
  · simp -dsimp only [Vm.G, List.lookup, Nat.reduceAdd, Nat.reduceBEq, Int.reduceBNe, Int.reduceBEq, Nat.reduceLeDiff, q12]
    refine call_one (S := noReadySpec) rfl _ GaL.rfl ⟨_, rfl, .inr ⟨iv, rfl, hz⟩, ?_⟩
    simp -dsimp only [Vm.G, List.lookup, Nat.reduceAdd, Nat.reduceBEq, Int.reduceBNe, Int.reduceBEq, Nat.reduceLeDiff, q12]
    exact hq
def noAbortSpec : Vm.Spec := fun args h Q => ∃ v : AV, args = [v] ∧ noView h v ∧ Q (.tup []) h
theorem does_noAbort : Does Tryz.prog 8 noAbortSpec := by
  refine does_of_awp (good_cons does_noReady good_nil) Tryz.func8 rfl (by decide +kernel) (by decide +kernel) ?_
  rintro args h Q ⟨v, rfl, hv, hq⟩
  refine ⟨by simp [Tryz.f8], ?_⟩
  rw [awpFunc_some (by rfl)]
  rcases hv with rfl | ⟨iv, rfl, hz⟩
  · simp -dsimp only [Vm.G, List.lookup, Nat.reduceAdd, Nat.reduceBEq, Int.reduceBNe, Int.reduceBEq, Nat.reduceLeDiff, q8]
    refine call_one (S := noReadySpec) rfl _ GaL.rfl ⟨_, rfl, .inl rfl, ?_⟩
    simp -dsimp only [Vm.G, List.lookup, Nat.reduceAdd, Nat.reduceBEq, Int.reduceBNe, Int.reduceBEq, Nat.reduceLeDiff, q8]
    exact hq
  · simp -dsimp only [Vm.G, List.lookup, Nat.reduceAdd, Nat.reduceBEq, Int.reduceBNe, Int.reduceBEq, Nat.reduceLeDiff, q8]
    refine call_one (S := noReadySpec) rfl _ GaL.rfl ⟨_, rfl, .inr ⟨iv, rfl, hz⟩, ?_⟩
    simp -dsimp only [Vm.G, List.lookup, Nat.reduceAdd, Nat.reduceBEq, Int.reduceBNe, Int.reduceBEq, Nat.reduceLeDiff, q8]
    exact hq
end Go.Proofs.Lx
/- Documents: docs.Get, Set, All, Last, Open, Right. -/
set_option linter.unusedSimpArgs false
set_option linter.unusedVariables false
namespace Go.Proofs.Lx
open Go.Vm
attribute [local irreducible] awpArr awpBin awpMake awpAppend awpCvX awpStrOf awpBinX awpSlice awpBS awpStore awpAlloc awpCopy awpIndex awpDraw awpIdxX awpFa awpField awpLookup awpUpdate awpDelete awpClear awpRange awpNext awpEntry awpBuild awpClearS awpIdxL awpTree appB awpIdxO eltA treeA
def Dl.zero : Dl := ⟨0, 0, 0, 0⟩
def Dc.zero : Dc := ⟨0, 0, 0, 0, 0⟩
end Go.Proofs.Lx
/- Documents, the reference's: ref30. -/
set_option linter.unusedSimpArgs false
set_option linter.unusedVariables false
namespace Go.Proofs.Lx
open Go.Vm
attribute [local irreducible] awpArr awpBin awpMake awpAppend awpCvX awpStrOf awpBinX awpSlice awpBS awpStore awpAlloc awpCopy awpIndex awpDraw awpIdxX awpFa awpField awpLookup awpUpdate awpDelete awpClear awpRange awpNext awpEntry awpBuild awpClearS awpIdxL awpTree appB awpIdxO eltA treeA
end Go.Proofs.Lx
/- Encumbrances: plain laws and bounds. -/
set_option linter.unusedSimpArgs false
set_option linter.unusedVariables false
namespace Go.Proofs.Lx
open Go.Vm
attribute [local irreducible] awpArr awpBin awpMake awpAppend awpCvX awpStrOf awpBinX awpSlice awpBS awpStore awpAlloc awpCopy awpIndex awpDraw awpIdxX awpFa awpField awpLookup awpUpdate awpDelete awpClear awpRange awpNext awpEntry awpBuild awpClearS awpIdxL awpTree appB awpIdxO eltA treeA
/-- Lines' nodes, charged: so much of each line. -/
def chargeG (mk : Dl → Chg) (year : Int) : List Dl → Fun → Bool → Fun × Bool × Int
  | [], f, w => (f, w, 0)
  | x :: r, f, w => if (chargeOf f year x.node (mk x)).2.2 ≠ 0 then ((chargeOf f year x.node (mk x)).1, false, (chargeOf f year x.node (mk x)).2.2)
    else chargeG mk year r (chargeOf f year x.node (mk x)).1 (w || (chargeOf f year x.node (mk x)).2.1)
end Go.Proofs.Lx
/- Charges and pre-encumbrances, the reference's: ref29, ref31. -/
set_option linter.unusedSimpArgs false
set_option linter.unusedVariables false
namespace Go.Proofs.Lx
open Go.Vm
attribute [local irreducible] awpArr awpBin awpMake awpAppend awpCvX awpStrOf awpBinX awpSlice awpBS awpStore awpAlloc awpCopy awpIndex awpDraw awpIdxX awpFa awpField awpLookup awpUpdate awpDelete awpClear awpRange awpNext awpEntry awpBuild awpClearS awpIdxL awpTree appB awpIdxO eltA treeA
attribute [local irreducible] chargeOf chargeG docsPut
end Go.Proofs.Lx
/- The law SeqnRises: walked. -/
set_option linter.unusedSimpArgs false
set_option linter.unusedVariables false
namespace Go.Proofs.Lx
open Go.Vm
attribute [local irreducible] awpArr awpBin awpMake awpAppend awpCvX awpStrOf awpBinX awpSlice awpBS awpStore awpAlloc awpCopy awpIndex awpDraw awpIdxX awpFa awpField awpLookup awpUpdate awpDelete awpClear awpRange awpNext awpEntry awpBuild
def yesSpec : Vm.Spec := fun args h Q => args = [] ∧ ∀ h', Q (.v (.bool true)) h'
end Go.Proofs.Lx
/- The law SeqnGives. -/
set_option linter.unusedSimpArgs false
set_option linter.unusedVariables false
namespace Go.Proofs.Lx
open Go.Vm
attribute [local irreducible] awpArr awpBin awpMake awpAppend awpCvX awpStrOf awpBinX awpSlice awpBS awpStore awpAlloc awpCopy awpIndex awpDraw awpIdxX awpFa awpField awpLookup awpUpdate awpDelete awpClear awpRange awpNext awpEntry awpBuild awpClearS awpIdxL
end Go.Proofs.Lx
/- The law YearsLive. -/
set_option linter.unusedSimpArgs false
set_option linter.unusedVariables false
namespace Go.Proofs.Lx
open Go.Vm
attribute [local irreducible] awpArr awpBin awpMake awpAppend awpCvX awpStrOf awpBinX awpSlice awpBS awpStore awpAlloc awpCopy awpIndex awpDraw awpIdxX awpFa awpField awpLookup awpUpdate awpDelete awpClear awpRange awpNext awpEntry awpBuild awpClearS awpIdxL awpTree appB awpIdxO eltA treeA
theorem both_rnew {h : Heap} {V : VId} (hV : isView h V noF) : Both (rNewH h) V (rNewId h) noF := by
  refine ⟨by unfold rNewH; exact hV.more _, isRef_new h, fun i hi hm => ?_⟩
  obtain ⟨chg, clk, mem, clk2, h1, h2, h3, -⟩ := hV
  have a1 := get_lt h1
  have a2 := get_lt h2
  have a3 := get_lt h3
  simp only [rNewId, List.mem_cons, List.not_mem_nil, or_false] at hi hm
  omega
end Go.Proofs.Lx
/- The law PreOpen. -/
set_option linter.unusedSimpArgs false
set_option linter.unusedVariables false
namespace Go.Proofs.Lx
open Go.Vm
attribute [local irreducible] awpArr awpBin awpMake awpAppend awpCvX awpStrOf awpBinX awpSlice awpBS awpStore awpAlloc awpCopy awpIndex awpDraw awpIdxX awpFa awpField awpLookup awpUpdate awpDelete awpClear awpRange awpNext awpEntry awpBuild awpClearS awpIdxL awpTree appB awpIdxO eltA treeA
abbrev InR (n : Int) : Prop := 0 ≤ n ∧ n ≤ 4294967295
end Go.Proofs.Lx
/- Two views beside, committed and forgotten: the law PreNew. -/
set_option linter.unusedSimpArgs false
set_option linter.unusedVariables false
namespace Go.Proofs.Lx
open Go.Vm
attribute [local irreducible] awpArr awpBin awpMake awpAppend awpCvX awpStrOf awpBinX awpSlice awpBS awpStore awpAlloc awpCopy awpIndex awpDraw awpIdxX awpFa awpField awpLookup awpUpdate awpDelete awpClear awpRange awpNext awpEntry awpBuild awpClearS awpIdxL awpTree appB awpIdxO eltA treeA
def rComId (R : RId) (h : Heap) : RId := ⟨R.iv, h.length, R.inn, h.length + 1⟩
def rAbId (R : RId) (h : Heap) : RId := ⟨R.iv, R.iw, h.length, h.length + 1⟩
theorem set_two {h : Heap} {i : Nat} (hi : i < h.length) (x y z a : AObj) : ((h ++ [x]).set i y ++ [a]).set i z = h.set i z ++ [x, a] := by
  rw [List.set_append_left _ _ hi, List.append_assoc, List.set_append_left _ _ (by rw [List.length_set]; exact hi), List.set_set]
  rfl
theorem get_two {h : Heap} {i j : Nat} {x a z o : AObj} (hj : h[j]? = some o) (hne : j ≠ i) : (h.set i z ++ [x, a])[j]? = some o := by
  have hl : j < (h.set i z).length := by rw [List.length_set]; exact get_lt hj
  rw [List.getElem?_append_left hl, List.getElem?_set_ne (Ne.symm hne)]; exact hj
theorem get_two0 (h : Heap) (i : Nat) (z x a : AObj) : (h.set i z ++ [x, a])[h.length]? = some x := by
  rw [List.getElem?_append_right (by simp)]; simp
theorem get_two1 (h : Heap) (i : Nat) (z x a : AObj) : (h.set i z ++ [x, a])[h.length + 1]? = some a := by
  rw [List.getElem?_append_right (by simp)]; simp
theorem get_twoI {h : Heap} {i : Nat} (hi : i < h.length) (z x a : AObj) : (h.set i z ++ [x, a])[i]? = some z := by
  rw [List.getElem?_append_left (by rw [List.length_set]; exact hi), List.getElem?_set_self hi]
theorem same_two {h : Heap} {i : Nat} (z x a : AObj) : Same h (h.set i z ++ [x, a]) [i] :=
  ⟨by simp, fun j hj hm => by rw [List.getElem?_append_left (by rw [List.length_set]; exact hj), List.getElem?_set_ne (by simp at hm; omega)]⟩
set_option maxHeartbeats 1000000 in
theorem does_rCom0 : Does Tryz.prog 43 (fun args h Q => ∃ (R : RId) (ln : List KV), args = [.ptr R.iv 0] ∧ h[R.iv]? = some (.cells [.ptr R.iw 0, .ptr R.inn 0, .ptr R.it 0]) ∧ h[R.inn]? = some (tabObj ln) ∧
    Q (.tup []) (h.set R.iv (.cells [.ptr h.length 0, .ptr R.inn 0, .ptr (h.length + 1) 0]) ++ [tabObj ln, .cells [.v (.slice none 0 0)]])) := by
  refine does_of_awp good_nil Tryz.func43 rfl (by decide +kernel) (by decide +kernel) ?_
  rintro args h Q ⟨R, ln, rfl, h1, h2, hq⟩
  refine ⟨by simp [Tryz.f43], ?_⟩
  rw [awpFunc_some (by rfl)]
  have hlt := get_lt h1
  have k1 : ∀ r, (h ++ r)[R.iv]? = some (.cells [.ptr R.iw 0, .ptr R.inn 0, .ptr R.it 0]) := fun r => heap_get r h1
  unfold tabObj at h2 hq
  simp -dsimp only [Vm.G, List.lookup, Nat.reduceAdd, Nat.reduceBEq, Int.reduceBNe, Int.reduceBEq, Nat.reduceLeDiff, q43, h1, h2, k1]
  have k2 : ((h ++ [AObj.cells [.sl 2 (ln.map kvAv)]]).set R.iv (.cells [AV.ptr h.length 0, .ptr R.inn 0, .ptr R.it 0]))[R.iv]? = some (.cells [AV.ptr h.length 0, .ptr R.inn 0, .ptr R.it 0]) := List.getElem?_set_self (by simp; omega)
  have k3 : ∀ r, (((h ++ [AObj.cells [.sl 2 (ln.map kvAv)]]).set R.iv (.cells [AV.ptr h.length 0, .ptr R.inn 0, .ptr R.it 0])) ++ r)[R.iv]? = some (.cells [AV.ptr h.length 0, .ptr R.inn 0, .ptr R.it 0]) := fun r => heap_get r k2
  have k4 : ((h ++ [AObj.cells [.sl 2 (ln.map kvAv)]]).set R.iv (.cells [AV.ptr h.length 0, .ptr R.inn 0, .ptr R.it 0])).length = h.length + 1 := by simp
  have e1 : putCells [AV.ptr R.iw 0, .ptr R.inn 0, .ptr R.it 0] 0 [.ptr h.length 0] = [AV.ptr h.length 0, .ptr R.inn 0, .ptr R.it 0] := rfl
  try simp only [e1]
  simp -dsimp only [Vm.G, List.lookup, Nat.reduceAdd, Nat.reduceBEq, Int.reduceBNe, Int.reduceBEq, Nat.reduceLeDiff, q43, k2, k3, k4]
  have e2 : putCells [AV.ptr h.length 0, .ptr R.inn 0, .ptr R.it 0] 2 [.ptr (h.length + 1) 0] = [.ptr h.length 0, .ptr R.inn 0, .ptr (h.length + 1) 0] := rfl
  try simp only [e2]
  rw [set_two hlt]
  exact hq
set_option maxHeartbeats 1000000 in
theorem does_rAb0 : Does Tryz.prog 44 (fun args h Q => ∃ (R : RId) (ln : List KV), args = [.ptr R.iv 0] ∧ h[R.iv]? = some (.cells [.ptr R.iw 0, .ptr R.inn 0, .ptr R.it 0]) ∧ h[R.iw]? = some (tabObj ln) ∧
    Q (.tup []) (h.set R.iv (.cells [.ptr R.iw 0, .ptr h.length 0, .ptr (h.length + 1) 0]) ++ [tabObj ln, .cells [.v (.slice none 0 0)]])) := by
  refine does_of_awp good_nil Tryz.func44 rfl (by decide +kernel) (by decide +kernel) ?_
  rintro args h Q ⟨R, ln, rfl, h1, h2, hq⟩
  refine ⟨by simp [Tryz.f44], ?_⟩
  rw [awpFunc_some (by rfl)]
  have hlt := get_lt h1
  have k1 : ∀ r, (h ++ r)[R.iv]? = some (.cells [.ptr R.iw 0, .ptr R.inn 0, .ptr R.it 0]) := fun r => heap_get r h1
  unfold tabObj at h2 hq
  simp -dsimp only [Vm.G, List.lookup, Nat.reduceAdd, Nat.reduceBEq, Int.reduceBNe, Int.reduceBEq, Nat.reduceLeDiff, q44, h1, h2, k1]
  have k2 : ((h ++ [AObj.cells [.sl 2 (ln.map kvAv)]]).set R.iv (.cells [AV.ptr R.iw 0, .ptr h.length 0, .ptr R.it 0]))[R.iv]? = some (.cells [AV.ptr R.iw 0, .ptr h.length 0, .ptr R.it 0]) := List.getElem?_set_self (by simp; omega)
  have k3 : ∀ r, (((h ++ [AObj.cells [.sl 2 (ln.map kvAv)]]).set R.iv (.cells [AV.ptr R.iw 0, .ptr h.length 0, .ptr R.it 0])) ++ r)[R.iv]? = some (.cells [AV.ptr R.iw 0, .ptr h.length 0, .ptr R.it 0]) := fun r => heap_get r k2
  have k4 : ((h ++ [AObj.cells [.sl 2 (ln.map kvAv)]]).set R.iv (.cells [AV.ptr R.iw 0, .ptr h.length 0, .ptr R.it 0])).length = h.length + 1 := by simp
  have e1 : putCells [AV.ptr R.iw 0, .ptr R.inn 0, .ptr R.it 0] 1 [.ptr h.length 0] = [AV.ptr R.iw 0, .ptr h.length 0, .ptr R.it 0] := rfl
  try simp only [e1]
  simp -dsimp only [Vm.G, List.lookup, Nat.reduceAdd, Nat.reduceBEq, Int.reduceBNe, Int.reduceBEq, Nat.reduceLeDiff, q44, k2, k3, k4]
  have e2 : putCells [AV.ptr R.iw 0, .ptr h.length 0, .ptr R.it 0] 2 [.ptr (h.length + 1) 0] = [.ptr R.iw 0, .ptr h.length 0, .ptr (h.length + 1) 0] := rfl
  try simp only [e2]
  rw [set_two hlt]
  exact hq
theorem gaH_two {h : Heap} {i : Nat} (z x : AObj) : GaH (h.set i z ++ [x, .cells [.v (.slice none 0 0)]]) (h.set i z ++ [x, tabObj []]) :=
  GaH.append rfl fun i o' ho' => by
    match i, ho' with
    | 0, ho' => exact ⟨o', ho', .inl rfl⟩
    | 1, ho' => exact ⟨_, rfl, .inr ⟨_, _, rfl, (Option.some.inj ho').symm, .cons (.nil 2) .nil⟩⟩
    | i + 2, ho' => simp at ho'
def samesSpec : Vm.Spec := fun args h Q => ∃ (V : VId) (R : RId) (f : Fun), args = [.ptr V.iv 0, .ptr R.iv 0] ∧ Both h V R f ∧ f.n ≤ 536870912 ∧ ∀ h', Both h' V R f → Same h h' [] → Q (.v (.bool true)) h'
theorem does_sames : Does Tryz.prog 47 samesSpec := by
  refine does_of_awp (good_cons does_scan (good_cons does_rScan (good_cons does_pairs good_nil))) Tryz.func47 rfl (by decide +kernel) (by decide +kernel) ?_
  rintro args h Q ⟨V, R, f, rfl, hB, hn, hq⟩
  refine ⟨by simp [Tryz.f47], ?_⟩
  rw [awpFunc_some (by rfl)]
  simp -dsimp only [Vm.G, List.lookup, Nat.reduceAdd, Nat.reduceBEq, Int.reduceBNe, Int.reduceBEq, Nat.reduceLeDiff, q47]
  refine call_one (S := scanSpec) rfl _ (.cons (.refl _) (.cons (.nil 1) .nil)) ⟨V, f, [], rfl, by simp, hB.1, hn, fun l h1 hsc hln hV1 hs1 => ?_⟩
  have hB1 := hB.quiet hV1 hs1
  simp -dsimp only [Vm.G, List.lookup, Nat.reduceAdd, Nat.reduceBEq, Int.reduceBNe, Int.reduceBEq, Nat.reduceLeDiff, q47]
  refine call_one (S := rScanSpec) rfl _ (.cons (.refl _) (.cons (.nil 1) .nil)) ⟨R, f, [], rfl, by simp, hB1.2.1, hn, fun l' hsc' hln' => ?_⟩
  obtain rfl := hsc.same hsc'
  simp -dsimp only [Vm.G, List.lookup, Nat.reduceAdd, Nat.reduceBEq, Int.reduceBNe, Int.reduceBEq, Nat.reduceLeDiff, q47]
  refine call_one (S := pairsSpec) rfl _ GaL.rfl ⟨l, l, by omega, rfl, ?_⟩
  simp -dsimp only [Vm.G, List.lookup, Nat.reduceAdd, Nat.reduceBEq, Int.reduceBNe, Int.reduceBEq, Nat.reduceLeDiff, q47, decide_true]
  exact hq _ hB1 hs1
theorem both_turn {h h1 h2 : Heap} {V : VId} {R R' : RId} {f k : Fun} (hB : Both h V R f) (hV : isView h1 V k) (hs : Same h h1 [V.ic, V.im]) (hR : isRef h2 R' k) (hs2 : Same h1 h2 [R.iv]) (hm : memV h1 V k) (hw : wasR h2 R' k)
    (hid : R' = rComId R h1 ∨ R' = rAbId R h1) : BothW h2 V R' k k := by
  obtain ⟨hB1, hB2, hB3⟩ := hB
  have hd : ∀ i ∈ [V.iv, V.ic, V.im], i ∉ [R.iv] := fun i hi hm => hB3 i hi (by simp at hm ⊢; exact .inl hm)
  have hlt : ∀ i ∈ [V.iv, V.ic, V.im], i < h1.length := fun i hi => by
    obtain ⟨chg, clk, mem, clk2, h1, h2, h3, h4⟩ := hV
    simp only [List.mem_cons, List.not_mem_nil, or_false] at hi
    rcases hi with rfl | rfl | rfl
    · exact get_lt h1
    · exact get_lt h2
    · exact get_lt h3
  refine ⟨⟨hV.same hs2 hd, hR, fun i hi hmem => ?_⟩, hm.same hs2 (hd _ (by simp)), hw⟩
  have h3 := hB3 i hi
  have h4 := hlt i hi
  simp only [List.mem_cons, List.not_mem_nil, or_false, not_or] at h3 hmem
  rcases hid with rfl | rfl
  · simp only [rComId] at hmem
    omega
  · simp only [rAbId] at hmem
    omega
def vnewWSpec : Vm.Spec := fun args h Q => args = [nilP] ∧ ∀ (V : VId) (h' : Heap), isView h' V noF → memV h' V noF → Q (.ptr V.iv 0) h'
theorem does_vnewW : Does Tryz.prog 15 vnewWSpec := does_vnew.imp (by
  rintro args h Q ⟨rfl, hq⟩
  refine ⟨rfl, hq ⟨h.length + 2, h.length, h.length + 1⟩ _ (isView_new h) ⟨[], 0, ?_, fun k => rfl, by simp⟩⟩
  rw [List.getElem?_append_right (by simp)]; simp)
structure Dop where
  year : Int
  frm : Int
  lines : List Ln
def Dop.ok (k : Dop) : Prop := I64 k.year ∧ I64 k.frm ∧ ∀ x ∈ k.lines, x.ok
theorem isA_lnk {y : AV} (h : IsA (.agg [.int .i64, .int .i64, .int .i64, .int .i64]) y) : ∃ x : Ln, x.ok ∧ y = lnAv x := by
  simp only [IsA, IsAll] at h
  obtain ⟨ys, ⟨y1, r1, rfl, h1, y2, r2, rfl, h2, y3, r3, rfl, h3, y4, r4, rfl, h4, rfl⟩, rfl⟩ := h
  obtain ⟨a1, k1, rfl⟩ := isA_int (by simpa only [IsA] using h1)
  obtain ⟨a2, k2, rfl⟩ := isA_int (by simpa only [IsA] using h2)
  obtain ⟨a3, k3, rfl⟩ := isA_int (by simpa only [IsA] using h3)
  obtain ⟨a4, k4, rfl⟩ := isA_int (by simpa only [IsA] using h4)
  exact ⟨⟨a1, a2, a3, a4⟩, ⟨k1, k2, k3, k4⟩, rfl⟩
end Go.Proofs.Lx
/- A key that goes; the law ViewNobody. -/
set_option linter.unusedSimpArgs false
set_option linter.unusedVariables false
namespace Go.Proofs.Lx
open Go.Vm
attribute [local irreducible] awpArr awpBin awpMake awpAppend awpCvX awpStrOf awpBinX awpSlice awpBS awpStore awpAlloc awpCopy awpIndex awpDraw awpIdxX awpFa awpField awpLookup awpUpdate awpDelete awpClear awpRange awpNext awpEntry awpBuild awpClearS awpIdxL awpTree appB awpIdxO eltA treeA
def noDelSpec : Vm.Spec := fun args h Q => ∃ (v : AV) (k : List UInt8), args = [v, .sl 1 (k.map encB)] ∧ noView h v ∧ Q (.v (.bool false)) h
theorem does_noDel : Does Tryz.prog 10 noDelSpec := by
  refine does_of_awp (good_cons does_noGet good_nil) Tryz.func10 rfl (by decide +kernel) (by decide +kernel) ?_
  rintro args h Q ⟨v, k, rfl, hv, hq⟩
  refine ⟨by simp [Tryz.f10], ?_⟩
  rw [awpFunc_some (by rfl)]
  rcases hv with rfl | ⟨iv, rfl, hz⟩
  · simp -dsimp only [Vm.G, List.lookup, Nat.reduceAdd, Nat.reduceBEq, Int.reduceBNe, Int.reduceBEq, Nat.reduceLeDiff, q10]
    refine call_one (S := noGetSpec) rfl _ GaL.rfl ⟨_, k, rfl, .inl rfl, ?_⟩
    simp -dsimp only [Vm.G, List.lookup, Nat.reduceAdd, Nat.reduceBEq, Int.reduceBNe, Int.reduceBEq, Nat.reduceLeDiff, q10]
    exact hq
  · simp -dsimp only [Vm.G, List.lookup, Nat.reduceAdd, Nat.reduceBEq, Int.reduceBNe, Int.reduceBEq, Nat.reduceLeDiff, q10]
    refine call_one (S := noGetSpec) rfl _ GaL.rfl ⟨_, k, rfl, .inr ⟨iv, rfl, hz⟩, ?_⟩
    simp -dsimp only [Vm.G, List.lookup, Nat.reduceAdd, Nat.reduceBEq, Int.reduceBNe, Int.reduceBEq, Nat.reduceLeDiff, q10]
    exact hq
def noErrSpec : Vm.Spec := fun args h Q => ∃ v : AV, args = [v] ∧ noView h v ∧ Q (.v (.int .i64 2)) h
theorem does_noErr : Does Tryz.prog 13 noErrSpec := by
  refine does_of_awp (good_cons does_noReady good_nil) Tryz.func13 rfl (by decide +kernel) (by decide +kernel) ?_
  rintro args h Q ⟨v, rfl, hv, hq⟩
  refine ⟨by simp [Tryz.f13], ?_⟩
  rw [awpFunc_some (by rfl)]
  rcases hv with rfl | ⟨iv, rfl, hz⟩
  · simp -dsimp only [Vm.G, List.lookup, Nat.reduceAdd, Nat.reduceBEq, Int.reduceBNe, Int.reduceBEq, Nat.reduceLeDiff, q13]
    refine call_one (S := noReadySpec) rfl _ GaL.rfl ⟨_, rfl, .inl rfl, ?_⟩
    simp -dsimp only [Vm.G, List.lookup, Nat.reduceAdd, Nat.reduceBEq, Int.reduceBNe, Int.reduceBEq, Nat.reduceLeDiff, q13]
    exact hq
  · simp -dsimp only [Vm.G, List.lookup, Nat.reduceAdd, Nat.reduceBEq, Int.reduceBNe, Int.reduceBEq, Nat.reduceLeDiff, q13]
    refine call_one (S := noReadySpec) rfl _ GaL.rfl ⟨_, rfl, .inr ⟨iv, rfl, hz⟩, ?_⟩
    simp -dsimp only [Vm.G, List.lookup, Nat.reduceAdd, Nat.reduceBEq, Int.reduceBNe, Int.reduceBEq, Nat.reduceLeDiff, q13]
    exact hq
def verrSpec : Vm.Spec := fun args h Q => ∃ (V : VId) (f : Fun), args = [.ptr V.iv 0] ∧ isView h V f ∧ Q (.v (.int .i64 0)) h
theorem does_verr : Does Tryz.prog 13 verrSpec := by
  refine does_of_awp (good_cons does_vready good_nil) Tryz.func13 rfl (by decide +kernel) (by decide +kernel) ?_
  rintro args h Q ⟨V, f, rfl, ⟨chg, clk, mem, clk2, h1, -⟩, hq⟩
  refine ⟨by simp [Tryz.f13], ?_⟩
  rw [awpFunc_some (by rfl)]
  simp -dsimp only [Vm.G, List.lookup, Nat.reduceAdd, Nat.reduceBEq, Int.reduceBNe, Int.reduceBEq, Nat.reduceLeDiff, q13]
  refine call_one (S := vreadySpec) rfl _ GaL.rfl ⟨V.iv, V.ic, _, rfl, h1, ?_⟩
  simp -dsimp only [Vm.G, List.lookup, Nat.reduceAdd, Nat.reduceBEq, Int.reduceBNe, Int.reduceBEq, Nat.reduceLeDiff, q13, h1]
  exact hq
theorem dels_one {f : Fun} {k l : List UInt8} (hf : f k = some l) {d : List (List UInt8)} (hd : IsDels (upd f k none) f d) : d = [k] := by
  refine dels_same hd ⟨.cons (by simp) .nil, fun q => ?_⟩
  rw [upd_app, List.mem_singleton]
  by_cases hq : q = k
  · subst hq; simp [hf]
  · simp [hq]
theorem cvBB (m : Bool) (e' sz sz2 : Nat) (y : AV) (ys zs : List AV) (x : AV) (s s' : Slots) (K : AV → Slots → Prop) :
    awpCvX Tryz.prog 22 22 (.own m e' sz (y :: ys), s') (.sl sz2 zs) x s K = K (.sl sz (y :: ys)) s' := by rw [cvX_own Tryz.underlying22]; exact cv_bytes s Tryz.underlying22 Tryz.underlying5 m e' sz y ys s' x K
set_option maxRecDepth 20000 in
set_option maxHeartbeats 2000000 in
theorem does_law14awake : Does Tryz.prog 14 yesSpec := by
  refine does_of_awp (good_cons does_vnewW (good_cons does_vput (good_cons does_commit (good_cons does_vdel (good_cons does_vget (good_cons does_changesX (good_cons does_abort (good_cons does_verr good_nil)))))))) Tryz.func14 rfl (by decide +kernel) (by decide +kernel) ?_
  rintro args h Q ⟨rfl, hq⟩
  refine ⟨by simp [Tryz.f14], ?_⟩
  rw [awpFunc_some (by rfl)]
  simp -dsimp only [Vm.G, List.lookup, Nat.reduceAdd, Nat.reduceBEq, Int.reduceBNe, Int.reduceBEq, Nat.reduceLeDiff, q14]
  refine call_one (S := vnewWSpec) rfl _ GaL.rfl ⟨rfl, fun V h1 hV hm => ?_⟩
  simp -dsimp only [Vm.G, List.lookup, Nat.reduceAdd, Nat.reduceBEq, Int.reduceBNe, Int.reduceBEq, Nat.reduceLeDiff, q14]
  refine nil_pointer Tryz.underlying23 ?_
  simp -dsimp only [Vm.G, List.lookup, Nat.reduceAdd, Nat.reduceBEq, Int.reduceBNe, Int.reduceBEq, Nat.reduceLeDiff, q14]
  refine bs_intro zr5 (by decide) (by decide) rfl rfl (by simp [solid, AV.cells]) ?_
  simp -dsimp only [Vm.G, List.lookup, Nat.reduceAdd, Nat.reduceBEq, Int.reduceBNe, Int.reduceBEq, Nat.reduceLeDiff, q14, cvBB]
  refine bs_intro zr5 (by decide) (by decide) rfl rfl (by simp [solid, AV.cells]) ?_
  simp -dsimp only [Vm.G, List.lookup, Nat.reduceAdd, Nat.reduceBEq, Int.reduceBNe, Int.reduceBEq, Nat.reduceLeDiff, q14, cvBB]
  refine call_one (S := vputSpec) rfl _ GaL.rfl ⟨V, noF, [97], [120], rfl, hV, fun _ h2 hV2 hs2 => ?_, fun hr => (by cases hr)⟩
  simp -dsimp only [Vm.G, List.lookup, Nat.reduceAdd, Nat.reduceBEq, Int.reduceBNe, Int.reduceBEq, Nat.reduceLeDiff, q14]
  refine call_one (S := commitSpec) rfl _ GaL.rfl ⟨V, _, rfl, hV2, by decide, fun h3 hV3 hm3 hs3 => ?_⟩
  simp -dsimp only [Vm.G, List.lookup, Nat.reduceAdd, Nat.reduceBEq, Int.reduceBNe, Int.reduceBEq, Nat.reduceLeDiff, q14]
  refine bs_intro zr5 (by decide) (by decide) rfl rfl (by simp [solid, AV.cells]) ?_
  simp -dsimp only [Vm.G, List.lookup, Nat.reduceAdd, Nat.reduceBEq, Int.reduceBNe, Int.reduceBEq, Nat.reduceLeDiff, q14, cvBB]
  refine call_one (S := vdelSpec) rfl _ GaL.rfl ⟨V, _, [97], rfl, hV3, fun hr => (by cases hr), fun _ h4 hV4 hs4 => ?_⟩
  have hm4 := hm3.same hs4 (by have := hV3.ne.2.2; simp [Ne.symm this])
  simp -dsimp only [Vm.G, List.lookup, Nat.reduceAdd, Nat.reduceBEq, Int.reduceBNe, Int.reduceBEq, Nat.reduceLeDiff, q14]
  refine bs_intro zr5 (by decide) (by decide) rfl rfl (by simp [solid, AV.cells]) ?_
  simp -dsimp only [Vm.G, List.lookup, Nat.reduceAdd, Nat.reduceBEq, Int.reduceBNe, Int.reduceBEq, Nat.reduceLeDiff, q14, cvBB]
  refine call_one (S := vgetSpec) rfl _ GaL.rfl ⟨V, _, [97], rfl, hV4, fun x l hx hf => (by cases hf), fun x hx hf => ?_⟩
  rcases hx with rfl | ⟨-, rfl⟩
  · simp -dsimp only [Vm.G, List.lookup, Nat.reduceAdd, Nat.reduceBEq, Int.reduceBNe, Int.reduceBEq, Nat.reduceLeDiff, q14]
    refine call_one (S := changesXSpec) rfl _ GaL.rfl ⟨V, _, _, rfl, hV4, hm4, by decide, fun p d hp hd => ?_⟩
    have hd1 := dels_one (k := [97]) (l := [120]) rfl hd
    subst hd1
    simp -dsimp only [Vm.G, List.lookup, Nat.reduceAdd, Nat.reduceBEq, Int.reduceBNe, Int.reduceBEq, Nat.reduceLeDiff, q14]
    refine call_one (S := abortSpec) rfl _ GaL.rfl ⟨V, _, _, rfl, hV4, hm4, fun h5 hV5 hm5 hs5 => ?_⟩
    simp -dsimp only [Vm.G, List.lookup, Nat.reduceAdd, Nat.reduceBEq, Int.reduceBNe, Int.reduceBEq, Nat.reduceLeDiff, q14]
    refine bs_intro zr5 (by decide) (by decide) rfl rfl (by simp [solid, AV.cells]) ?_
    simp -dsimp only [Vm.G, List.lookup, Nat.reduceAdd, Nat.reduceBEq, Int.reduceBNe, Int.reduceBEq, Nat.reduceLeDiff, q14, cvBB]
    refine call_one (S := vgetSpec) rfl _ GaL.rfl ⟨V, _, [97], rfl, hV5, fun x l hx hf => ?_, fun x hx hf => (by cases hf)⟩
    have hl : l = [120] := by
      have hf : some [120] = some l := hf
      exact (Option.some.inj hf).symm
    subst hl
    rcases hx with rfl | ⟨hl0, -⟩
    · have k1 : (((1 : Nat) : Int) == 1) = true := rfl
      simp -dsimp only [Vm.G, List.lookup, Nat.reduceAdd, Nat.reduceBEq, Int.reduceBNe, Int.reduceBEq, Nat.reduceLeDiff, q14, List.map_cons, List.map_nil, List.length_cons, List.length_nil, encB, k1]
      refine strOf_sl bt22 [120] rfl ?_
      simp -dsimp only [Vm.G, List.lookup, Nat.reduceAdd, Nat.reduceBEq, Int.reduceBNe, Int.reduceBEq, Nat.reduceLeDiff, q14, str_eql, toList_mk, beq_self_eq_true]
      refine call_one (S := verrSpec) rfl _ GaL.rfl ⟨V, _, rfl, hV5, ?_⟩
      simp -dsimp only [Vm.G, List.lookup, Nat.reduceAdd, Nat.reduceBEq, Int.reduceBNe, Int.reduceBEq, Nat.reduceLeDiff, q14, beq_self_eq_true]
      exact hq _
    · cases hl0
  · simp -dsimp only [Vm.G, List.lookup, Nat.reduceAdd, Nat.reduceBEq, Int.reduceBNe, Int.reduceBEq, Nat.reduceLeDiff, q14]
    refine call_one (S := changesXSpec) rfl _ GaL.rfl ⟨V, _, _, rfl, hV4, hm4, by decide, fun p d hp hd => ?_⟩
    have hd1 := dels_one (k := [97]) (l := [120]) rfl hd
    subst hd1
    simp -dsimp only [Vm.G, List.lookup, Nat.reduceAdd, Nat.reduceBEq, Int.reduceBNe, Int.reduceBEq, Nat.reduceLeDiff, q14]
    refine call_one (S := abortSpec) rfl _ GaL.rfl ⟨V, _, _, rfl, hV4, hm4, fun h5 hV5 hm5 hs5 => ?_⟩
    simp -dsimp only [Vm.G, List.lookup, Nat.reduceAdd, Nat.reduceBEq, Int.reduceBNe, Int.reduceBEq, Nat.reduceLeDiff, q14]
    refine bs_intro zr5 (by decide) (by decide) rfl rfl (by simp [solid, AV.cells]) ?_
    simp -dsimp only [Vm.G, List.lookup, Nat.reduceAdd, Nat.reduceBEq, Int.reduceBNe, Int.reduceBEq, Nat.reduceLeDiff, q14, cvBB]
    refine call_one (S := vgetSpec) rfl _ GaL.rfl ⟨V, _, [97], rfl, hV5, fun x l hx hf => ?_, fun x hx hf => (by cases hf)⟩
    have hl : l = [120] := by
      have hf : some [120] = some l := hf
      exact (Option.some.inj hf).symm
    subst hl
    rcases hx with rfl | ⟨hl0, -⟩
    · have k1 : (((1 : Nat) : Int) == 1) = true := rfl
      simp -dsimp only [Vm.G, List.lookup, Nat.reduceAdd, Nat.reduceBEq, Int.reduceBNe, Int.reduceBEq, Nat.reduceLeDiff, q14, List.map_cons, List.map_nil, List.length_cons, List.length_nil, encB, k1]
      refine strOf_sl bt22 [120] rfl ?_
      simp -dsimp only [Vm.G, List.lookup, Nat.reduceAdd, Nat.reduceBEq, Int.reduceBNe, Int.reduceBEq, Nat.reduceLeDiff, q14, str_eql, toList_mk, beq_self_eq_true]
      refine call_one (S := verrSpec) rfl _ GaL.rfl ⟨V, _, rfl, hV5, ?_⟩
      simp -dsimp only [Vm.G, List.lookup, Nat.reduceAdd, Nat.reduceBEq, Int.reduceBNe, Int.reduceBEq, Nat.reduceLeDiff, q14, beq_self_eq_true]
      exact hq _
    · cases hl0
def nobodySpec : Vm.Spec := fun args h Q => ∃ k x : List UInt8, args = [.sl 1 (k.map encB), .sl 1 (x.map encB)] ∧ ∀ h', Q (.v (.bool true)) h'
set_option maxRecDepth 20000 in
set_option maxHeartbeats 2000000 in
theorem does_nobody : Does Tryz.prog 3 nobodySpec := by
  refine does_of_awp (good_cons does_noGet (good_cons does_noChanges (good_cons does_noAbort (good_cons does_noPut (good_cons does_noDel (good_cons does_noScan (good_cons does_noCommit (good_cons does_noErr (good_cons does_law14awake good_nil))))))))) Tryz.func3 rfl (by decide +kernel) (by decide +kernel) ?_
  rintro args h Q ⟨k, x, rfl, hq⟩
  refine ⟨by simp [Tryz.f3], ?_⟩
  rw [awpFunc_some (by rfl)]
  have hz : (h ++ [AObj.cells zeroV])[h.length]? = some (.cells zeroV) := heap_last _ _
  have hz1 : noView (h ++ [AObj.cells zeroV]) (.ptr h.length 0) := .inr ⟨_, rfl, hz⟩
  have hz0 : noView (h ++ [AObj.cells zeroV]) nilP := .inl rfl
  unfold zeroV nilP at hz0
  unfold zeroV at hz1
  generalize hH : h ++ [AObj.cells [.v (.map none), .v (.pointer none), .v (.map none), .v (.int .i64 0)]] = H at hz0 hz1
  simp -dsimp only [Vm.G, List.lookup, Nat.reduceAdd, Nat.reduceBEq, Int.reduceBNe, Int.reduceBEq, Nat.reduceLeDiff, q3]
  refine call_one (S := noGetSpec) rfl _ GaL.rfl ⟨_, k, rfl, .inl rfl, ?_⟩
  simp -dsimp only [Vm.G, List.lookup, Nat.reduceAdd, Nat.reduceBEq, Int.reduceBNe, Int.reduceBEq, Nat.reduceLeDiff, q3, al30, hH]
  refine call_one (S := noGetSpec) rfl _ GaL.rfl ⟨_, k, rfl, hz1, ?_⟩
  simp -dsimp only [Vm.G, List.lookup, Nat.reduceAdd, Nat.reduceBEq, Int.reduceBNe, Int.reduceBEq, Nat.reduceLeDiff, q3]
  refine call_one (S := noChangesSpec) rfl _ GaL.rfl ⟨_, rfl, hz0, ?_⟩
  simp -dsimp only [Vm.G, List.lookup, Nat.reduceAdd, Nat.reduceBEq, Int.reduceBNe, Int.reduceBEq, Nat.reduceLeDiff, q3]
  refine call_one (S := noAbortSpec) rfl _ GaL.rfl ⟨_, rfl, hz0, ?_⟩
  simp -dsimp only [Vm.G, List.lookup, Nat.reduceAdd, Nat.reduceBEq, Int.reduceBNe, Int.reduceBEq, Nat.reduceLeDiff, q3]
  refine call_one (S := noAbortSpec) rfl _ GaL.rfl ⟨_, rfl, hz1, ?_⟩
  simp -dsimp only [Vm.G, List.lookup, Nat.reduceAdd, Nat.reduceBEq, Int.reduceBNe, Int.reduceBEq, Nat.reduceLeDiff, q3]
  refine call_one (S := noPutSpec) rfl _ GaL.rfl ⟨_, k, x, rfl, hz0, ?_⟩
  simp -dsimp only [Vm.G, List.lookup, Nat.reduceAdd, Nat.reduceBEq, Int.reduceBNe, Int.reduceBEq, Nat.reduceLeDiff, q3, beq_self_eq_true]
  refine call_one (S := noPutSpec) rfl _ GaL.rfl ⟨_, k, x, rfl, hz1, ?_⟩
  simp -dsimp only [Vm.G, List.lookup, Nat.reduceAdd, Nat.reduceBEq, Int.reduceBNe, Int.reduceBEq, Nat.reduceLeDiff, q3, beq_self_eq_true]
  refine call_one (S := noDelSpec) rfl _ GaL.rfl ⟨_, k, rfl, hz0, ?_⟩
  simp -dsimp only [Vm.G, List.lookup, Nat.reduceAdd, Nat.reduceBEq, Int.reduceBNe, Int.reduceBEq, Nat.reduceLeDiff, q3]
  refine call_one (S := noScanSpec) rfl _ (.cons (.refl _) (.cons (.nil 1) .nil)) ⟨_, [], rfl, hz0, ?_⟩
  simp -dsimp only [Vm.G, List.lookup, Nat.reduceAdd, Nat.reduceBEq, Int.reduceBNe, Int.reduceBEq, Nat.reduceLeDiff, q3]
  refine call_one (S := noScanSpec) rfl _ (.cons (.refl _) (.cons (.nil 1) .nil)) ⟨_, [], rfl, hz1, ?_⟩
  have k2 : (IntKind.i64.wrap (0 + 0) == 0) = true := by decide
  simp -dsimp only [Vm.G, List.lookup, Nat.reduceAdd, Nat.reduceBEq, Int.reduceBNe, Int.reduceBEq, Nat.reduceLeDiff, q3, k2]
  refine call_one (S := noCommitSpec) rfl _ GaL.rfl ⟨_, rfl, hz0, ?_⟩
  simp -dsimp only [Vm.G, List.lookup, Nat.reduceAdd, Nat.reduceBEq, Int.reduceBNe, Int.reduceBEq, Nat.reduceLeDiff, q3, beq_self_eq_true]
  refine call_one (S := noErrSpec) rfl _ GaL.rfl ⟨_, rfl, hz1, ?_⟩
  simp -dsimp only [Vm.G, List.lookup, Nat.reduceAdd, Nat.reduceBEq, Int.reduceBNe, Int.reduceBEq, Nat.reduceLeDiff, q3, beq_self_eq_true]
  refine call_one (S := yesSpec) rfl _ GaL.rfl ⟨rfl, fun h4 => ?_⟩
  simp -dsimp only [Vm.G, List.lookup, Nat.reduceAdd, Nat.reduceBEq, Int.reduceBNe, Int.reduceBEq, Nat.reduceLeDiff, q3]
  exact hq _
theorem nobody_args {y0 y1 : AV} (i0 : IsA (.sl (.int .u8)) y0) (i1 : IsA (.sl (.int .u8)) y1) {Q : AV → Heap → Prop} (hq : ∀ h', Q (.v (.bool true)) h') : nobodySpec [y0, y1] [] Q := by
  obtain ⟨k, -, rfl⟩ := isA_bytes i0
  obtain ⟨x, -, rfl⟩ := isA_bytes i1
  exact ⟨k, x, rfl, hq⟩
end Go.Proofs.Lx
/- Lists of structs: the same, turned round. -/
set_option linter.unusedSimpArgs false
set_option linter.unusedVariables false
namespace Go.Proofs.Lx
open Go.Vm
attribute [local irreducible] awpArr awpBin awpMake awpAppend awpCvX awpStrOf awpBinX awpSlice awpBS awpStore awpAlloc awpCopy awpIndex awpDraw awpIdxX awpFa awpField awpLookup awpUpdate awpDelete awpClear awpRange awpNext awpEntry awpBuild awpClearS awpIdxL awpTree appB awpIdxO eltA treeA
end Go.Proofs.Lx
/- The law BalBack. -/
set_option linter.unusedSimpArgs false
set_option linter.unusedVariables false
namespace Go.Proofs.Lx
open Go.Vm
attribute [local irreducible] awpArr awpBin awpMake awpAppend awpCvX awpStrOf awpBinX awpSlice awpBS awpStore awpAlloc awpCopy awpIndex awpDraw awpIdxX awpFa awpField awpLookup awpUpdate awpDelete awpClear awpRange awpNext awpEntry awpBuild awpClearS awpIdxL awpTree appB awpIdxO eltA treeA
/-- A balance that is set, as it is seen. -/
def setv (f : Fun) (key : List UInt8) (n : Int) (q : List UInt8) : Option (List UInt8) := if q = key then (if n = 0 then none else some (be 8 n)) else f q
theorem balSet_app (f : Fun) (key : List UInt8) (n : Int) (q : List UInt8) : balSet f key n q = setv f key n q := by
  unfold balSet setv
  by_cases h0 : n = 0
  · simp only [if_pos h0]
    by_cases hf : f key = none
    · rw [if_pos hf]
      by_cases hq : q = key
      · rw [if_pos hq, hq]; exact hf
      · rw [if_neg hq]
    · rw [if_neg hf, upd_app]
  · simp only [if_neg h0]
    rw [upd_app]
theorem balSet_n (f : Fun) (key : List UInt8) (n : Int) : (balSet f key n).n ≤ f.n + 1 := by
  unfold balSet
  split
  · split
    · exact Nat.le_succ _
    · exact Nat.le_refl _
  · exact Nat.le_refl _
theorem balAdd_n (f : Fun) (key : List UInt8) (a : Int) : (balAdd f key a).1.n ≤ f.n + 1 := by
  unfold balAdd
  split
  · exact balSet_n f key _
  · exact Nat.le_succ _
/-- Only balances stand there, none of 0. -/
def GoodB (f : Fun) : Prop := ∀ q v, f q = some v → ∃ n, I64 n ∧ n ≠ 0 ∧ v = be 8 n
abbrev Dk := Int × Ln
def dkKey (k : Dk) : List UInt8 := balK k.1 k.2.fund k.2.obj
/-- What was added, the last ahead. -/
def ChainR : List Dk → Fun → Prop
  | [], f => ∀ q, f q = none
  | k :: r, f' => ∃ f : Fun, ChainR r f ∧ GoodB f ∧ ∃ n, addA (readOf f (dkKey k)) k.2.amt = some n ∧ ∀ q, f' q = setv f (dkKey k) n q
theorem ChainR.congr {f g : Fun} (h : ∀ q, f q = g q) : ∀ {r : List Dk}, ChainR r f → ChainR r g
  | [], hc => fun q => by rw [← h q]; exact hc q
  | k :: r, ⟨f0, h1, h2, n, h3, h4⟩ => ⟨f0, h1, h2, n, h3, fun q => by rw [← h q]; exact h4 q⟩
theorem readOf_none {f : Fun} {k : List UInt8} (h : f k = none) : readOf f k = 0 := by unfold readOf; rw [h]
theorem readOf_some {f : Fun} {k : List UInt8} {n : Int} (hn : I64 n) (h : f k = some (be 8 n)) : readOf f k = n := by
  unfold readOf; rw [h]
  simp only [be_length, if_true]
  exact num8_be n hn
theorem setv_read {f f' : Fun} {key : List UInt8} {n : Int} (hn : I64 n) (h : ∀ q, f' q = setv f key n q) : readOf f' key = n := by
  have hk := h key
  unfold setv at hk
  rw [if_pos rfl] at hk
  by_cases h0 : n = 0
  · rw [if_pos h0] at hk; rw [readOf_none hk, h0]
  · rw [if_neg h0] at hk; exact readOf_some hn hk
theorem fits_iff (n : Int) : fitsP n = true ↔ -4611686018427387904 ≤ n ∧ n ≤ 4611686018427387904 := by simp [fitsP]
theorem addA_some {a b n : Int} : addA a b = some n ↔ fitsP a = true ∧ fitsP b = true ∧ fitsP (w64 (a + b)) = true ∧ n = w64 (a + b) := by
  unfold addA
  constructor
  · intro h
    split at h
    · rename_i hc
      simp only [Bool.and_eq_true] at hc
      cases h; exact ⟨hc.1, hc.2.1, hc.2.2, rfl⟩
    · cases h
  · rintro ⟨h1, h2, h3, rfl⟩
    simp [h1, h2, h3]
theorem addA_sum {a b n : Int} (h : addA a b = some n) : n = a + b ∧ fitsP n = true := by
  obtain ⟨h1, h2, h3, rfl⟩ := addA_some.1 h
  rw [fits_iff] at h1 h2
  refine ⟨?_, h3⟩
  by_cases hm : a + b = 9223372036854775808
  · rw [hm] at h3
    exact absurd h3 (by decide)
  · exact wrap_i64 (by omega) (by omega)
end Go.Proofs.Lx
/- Lines sorted by their funds: by the kit's law on Go's own sort. -/
set_option linter.unusedSimpArgs false
set_option linter.unusedVariables false
namespace Go.Proofs.Lx
open Go.Vm Go.RowKit
open Go.Sort (SWO flatK HoldsK)
def cmpI (a b : Int) : Int := if a < b then -1 else if a > b then 1 else 0
theorem cmpI_lt (a b : Int) : cmpI a b < 0 ↔ a < b := by
  unfold cmpI
  repeat' split
  all_goals simp
  all_goals omega
theorem cmpI_eq (a b : Int) (h1 : ¬ cmpI a b < 0) (h2 : ¬ cmpI b a < 0) : a = b := by
  rw [cmpI_lt] at h1 h2; omega
theorem cmpI_asymm (a b : Int) (h : cmpI a b < 0) : ¬ cmpI b a < 0 := by
  rw [cmpI_lt] at h ⊢; omega
theorem swo_ints {α : Type} (key : α → Int) : SWO (ltOf fun x y => cmpI (key x) (key y)) := by
  refine ⟨fun x => by simp [ltOf, cmpI], fun x y z h1 h2 => ?_, fun x y z h1 h2 => ?_⟩
  · simp only [ltOf, decide_eq_true_eq, cmpI_lt] at h1 h2 ⊢; omega
  · simp only [ltOf, decide_eq_false_iff_not, cmpI_lt] at h1 h2 ⊢; omega
set_option maxHeartbeats 1000000 in
set_option maxRecDepth 100000 in
theorem isNaN_calls (W : World) (a : Int) : Calls Tryz.prog 197 #[.int .i64 a] W fun e w' => e = .returned (.bool false) ∧ w' = W := by
  have hne : (a != a) = false := by simp
  go_enter Tryz.func197, Tryz.ntmps197
  go_wp2
  go_ret
  simp [hne]
set_option maxHeartbeats 1000000 in
set_option maxRecDepth 100000 in
theorem cmpI_calls (W : World) (a b : Int) : Calls Tryz.prog 164 #[.int .i64 a, .int .i64 b] W fun e w' => e = .returned (.int .i64 (cmpI a b)) ∧ w' = W := by
  have hn := fun a => isNaN_calls W a
  unfold cmpI
  go_enter Tryz.func164, Tryz.ntmps164
  go_wp2_with (go_at_call 197; refine (hn _).mono ?_; rintro e w' ⟨rfl, rfl⟩)
  all_goals go_ret
  all_goals first | exact ⟨rfl, rfl⟩ | trace_state
set_option maxHeartbeats 1000000 in
set_option maxRecDepth 100000 in
theorem funds1_calls (W : World) (x1 x2 x3 y1 y2 y3 : Value) (a b : Int) (o1 : x1.oneCell' = true) (o2 : x2.oneCell' = true) (o3 : x3.oneCell' = true) (o4 : y1.oneCell' = true) (o5 : y2.oneCell' = true) (o6 : y3.oneCell' = true) :
    Calls Tryz.prog 163 #[.agg #[.int .i64 a, x1, x2, x3], .agg #[.int .i64 b, y1, y2, y3]] W fun e w' => e = .returned (.int .i64 (cmpI a b)) ∧ ∃ q os', w' = Sort.grow (W.drewN q) os' := by
  have hcon := fun W' => cmpI_calls W' a b
  generalize cmpI a b = r at hcon ⊢
  go_enter Tryz.func163, Tryz.ntmps163
  go_wp2_with (go_at_call 164; refine (hcon _).mono ?_; rintro e w' ⟨rfl, rfl⟩)
  go_ret
  exact ⟨rfl, 0, _, by rw [Go.Sort.alloc_eq_grow, Go.Sort.alloc_eq_grow, Go.Sort.grow_grow]; rfl⟩
/-- The world behind a sort. -/
theorem sortW_heap4 {α : Type} [Inhabited α] (enc : α → List Value) (w : World) (b m : Nat) (dk : Array α) (os : Array Obj) :
    (∀ k, k < w.heap.size → k ≠ b → (sortWorldK enc 4 w b 0 m dk os).heap[k]? = w.heap[k]?) ∧ w.heap.size ≤ (sortWorldK enc 4 w b 0 m dk os).heap.size ∧
      ∀ vs e fr, w.heap[b]? = some (.cells vs e fr) → (sortWorldK enc 4 w b 0 m dk os).heap[b]? = some (.cells (Sort.putCells id 0 (flatK enc 4 dk) vs) e fr) := by
  have hs : (Sort.putRow id (Sort.ahead w m) b 0 (flatK enc 4 dk)).heap.size = w.heap.size := by simp [Sort.putRow, Sort.mapBlock, Sort.ahead]
  have hg : ∀ k, k < w.heap.size → (sortWorldK enc 4 w b 0 m dk os).heap[k]? = (w.heap.modify b (Sort.onCells (Sort.putCells id 0 (flatK enc 4 dk))))[k]? := fun k hk => by
    show ((Sort.putRow id (Sort.ahead w m) b 0 (flatK enc 4 dk)).heap ++ os)[k]? = _
    rw [Array.getElem?_append_left (by rw [hs]; exact hk)]; rfl
  refine ⟨fun k hk hne => ?_, ?_, fun vs e fr hb => ?_⟩
  · rw [hg k hk, Array.getElem?_modify, if_neg (fun e => hne e.symm)]
  · show w.heap.size ≤ ((Sort.putRow id (Sort.ahead w m) b 0 (flatK enc 4 dk)).heap ++ os).size
    rw [Array.size_append, hs]; omega
  · rw [hg b (lt_of_heap hb), Array.getElem?_modify, if_pos rfl, hb]; rfl
def sortLnSpec : Vm.Spec := fun args h Q => ∃ (l : List Ln) (h0 : Heap) (c e : Nat), args = [.osl h0.length 0 l.length c, .clo 163 []] ∧ h = h0 ++ [.row e (c * 4) (flat (l.map lnAv))] ∧ (l.map Ln.fund).Nodup ∧ l.length < 4611686018427387904 ∧ l.length ≤ c ∧
  ∀ l' : List Ln, l'.Perm l → l'.Pairwise (fun a b => cmpI a.fund b.fund < 0) → Q (.tup []) (h0 ++ [.row e (c * 4) (flat (l'.map lnAv))])
theorem flat_ln (l : List Ln) (i r : Nat) (hi : i < l.length) (hr : r < 4) : (flat (l.map lnAv))[i * 4 + r]? = (lnAv l[i]).cells[r]? :=
  flat_get (fun x hx => by obtain ⟨p, -, rfl⟩ := List.mem_map.1 hx; rfl) (by rw [List.getElem?_map, List.getElem?_eq_getElem hi]; rfl) r hr
theorem does_sortLn : Does Tryz.prog 162 sortLnSpec := by
  refine ⟨⟨Tryz.f162, Tryz.func162, by kernel_rfl, by decide +kernel⟩, ?_⟩
  rintro args h Q ⟨l, h0, c, e, rfl, rfl, hnd, hln, hlc, hq⟩ w g vs hvs hrep hh hfr hlaid
  have hm : h0.length < g.n := by rw [← hh.n]; simp
  generalize hb : g.loc h0.length = b
  have hrow : RowE w g e (c * 4) (flat (l.map lnAv)) b := by
    have : ObjRep w g (.row e (c * 4) (flat (l.map lnAv))) (g.loc h0.length) := hh.obj h0.length _ (heap_last _ _)
    rw [hb] at this; exact this
  have hblt : b < w.heap.size := by rw [← hb]; exact hh.lt _ hm
  have hv0 : vs.getD 0 undef = .slice (some ⟨b, 0, none⟩) l.length c := by
    have := hrep 0 _ rfl
    generalize vs.getD 0 undef = v at this
    cases this with | osl => rw [hb]
  have hv1 : vs.getD 1 undef = .func (.func 163) #[] #[] := by
    have := hrep 1 _ rfl
    generalize vs.getD 1 undef = v at this
    cases this with | @clo _ _ cv hl hs => rw [Array.eq_empty_of_size_eq_zero (xs := cv) (by simpa using hl)]
  have hvs2 : vs = #[.slice (some ⟨b, 0, none⟩) l.length c, .func (.func 163) #[] #[]] := by
    have h2 : vs.size = 2 := hvs
    apply Array.ext
    · simpa using h2
    · intro i hi1 hi2
      have : i = 0 ∨ i = 1 := by omega
      rcases this with rfl | rfl
      · simpa [Array.getD, h2] using hv0
      · simpa [Array.getD, h2] using hv1
  subst hvs2
  -- what holds behind it, by where the cells went
  have fin : ∀ (w' : World) (l' : List Ln), l'.Perm l → l'.Pairwise (fun a b => cmpI a.fund b.fund < 0) → w'.os = w.os ∧ w'.tape = w.tape ∧ w'.output = w.output → w.heap.size ≤ w'.heap.size → (∀ k, k < w.heap.size → k ≠ b → w'.heap[k]? = w.heap[k]?) →
      (Keeps w g w' g → RowE w' g e (c * 4) (flat (l'.map lnAv)) b) →
      ∃ r h' g' v, Q r h' ∧ Ending.returned (.tuple #[]) = .returned v ∧ ResRep w' g' w.heap.size r v ∧ HeapRep w' g' h' ∧ Vm.Frame w g w' ∧
        g.n ≤ g'.n ∧ (∀ i, i < g.n → g'.loc i = g.loc i) ∧ (∀ b, b < w.heap.size → g'.pub b = g.pub b) ∧ (∀ i, i < g'.n → g.n ≤ i → w.heap.size ≤ g'.loc i) ∧ (∀ b, w'.heap.size ≤ b → g'.pub b = 0) := fun w' l' hp hs hw hsz hblk hrow' => by
    have hpub : g.pub b = 0 := by obtain ⟨-, -, -, -, h4, -⟩ := hrow; exact h4
    have hk : Keeps w g w' g := ⟨fun _ => Nat.le_refl _, fun k j v hj hv => by
      have hkb : k ≠ b := fun e => by rw [e, hpub] at hj; omega
      have hkl : k < w.heap.size := by
        rcases Nat.lt_or_ge k w.heap.size with h | h
        · exact h
        · rw [hfr k h] at hj; omega
      rw [World.cell?_of_block (a := ⟨k, j, none⟩) (hblk k hkl hkb)]; exact hv, Nat.le_refl _, fun _ _ => rfl⟩
    refine ⟨.tup [], h0 ++ [.row e (c * 4) (flat (l'.map lnAv))], g, .tuple #[], hq l' hp hs, rfl, .tup rfl (fun j u hu => by simp at hu), ?_, ?_, Nat.le_refl _, fun _ _ => rfl, fun _ _ => rfl, fun i hi h1 => by omega, fun k hk' => hfr k (Nat.le_trans hsz hk')⟩
    · refine ⟨by rw [← hh.n]; simp, fun i hi => Nat.lt_of_lt_of_le (hh.lt i hi) hsz, hh.inj, fun i o ho => ?_⟩
      rcases Nat.lt_or_ge i h0.length with hi | hi
      · rw [List.getElem?_append_left hi] at ho
        have hig : i < g.n := by omega
        have hne : g.loc i ≠ b := fun e => by
          have := hh.inj i h0.length hig hm (e.trans hb.symm)
          omega
        exact (hh.obj i o (by rw [List.getElem?_append_left hi]; exact ho)).keepAt hk ⟨hblk _ (hh.lt i hig) hne, rfl⟩
      · have hie : i = h0.length := by
          rcases Nat.lt_or_ge i (h0.length + 1) with h | h
          · omega
          · rw [List.getElem?_eq_none (by simp; omega)] at ho; cases ho
        subst hie
        rw [heap_last] at ho
        cases ho
        show RowE _ _ _ _ _ (g.loc h0.length)
        rw [hb]; exact hrow' hk
    · exact ⟨hw.1, hw.2.1, hw.2.2, hsz, fun k hk' hno => hblk k hk' fun e => hno _ hm (hb.trans e.symm)⟩
  by_cases hn : l.length = 0
  · have hl : l = [] := List.eq_nil_of_length_eq_zero hn
    subst hl
    refine (AnyF.slices_SortFunc_none Tryz.sortLine (some ⟨b, 0, none⟩) c _ w).mono ?_
    rintro e' w' ⟨rfl, rfl⟩
    exact fin w' [] (.refl _) .nil ⟨rfl, rfl, rfl⟩ (Nat.le_refl _) (fun _ _ _ => rfl) fun _ => hrow
  · obtain ⟨cur, a1, a2, a3, a4, a5, a6⟩ := hrow
    have hi : Inhabited (Fin l.length) := ⟨⟨0, by omega⟩⟩
    have hfl : (flat (l.map lnAv)).length = l.length * 4 := by
      rw [flat_length (sz := 4) (fun x hx => by obtain ⟨p, -, rfl⟩ := List.mem_map.1 hx; rfl), List.length_map]
    let enc : Fin l.length → List Value := fun i => [cur.getD (i.1 * 4) undef, cur.getD (i.1 * 4 + 1) undef, cur.getD (i.1 * 4 + 2) undef, cur.getD (i.1 * 4 + 3) undef]
    have henc : ∀ (i : Fin l.length) (r : Nat), r < 4 → (enc i)[r]! = cur.getD (i.1 * 4 + r) undef := fun i r hr => by
      have : r = 0 ∨ r = 1 ∨ r = 2 ∨ r = 3 := by omega
      rcases this with rfl | rfl | rfl | rfl <;> rfl
    let cf : Fin l.length → Fin l.length → Int := fun i j => cmpI l[i].fund l[j].fund
    have hcell : ∀ j, j < l.length * 4 → (cur.getD j undef).oneCell' = true := fun j hj => a5 j (by omega)
    have hrepc : ∀ (i : Fin l.length) (r : Nat) (u : AV), r < 4 → (lnAv l[i]).cells[r]? = some u → Rep w g u (cur.getD (i.1 * 4 + r) undef) := fun i r u hr hu => a6 _ u (by rw [flat_ln l i.1 r i.2 hr]; exact hu)
    have h1 : ∀ x, ∀ v ∈ enc x, v.oneCell' = true := fun x v hv => by
      have hx := x.2
      simp only [enc, List.mem_cons, List.not_mem_nil, or_false] at hv
      rcases hv with rfl | rfl | rfl | rfl
      all_goals exact hcell _ (by omega)
    have hkW : ∀ m dk os, Keeps w g (sortWorldK enc 4 w b 0 m dk os) g := fun m dk os => by
      obtain ⟨q1, q2, q3⟩ := sortW_heap4 enc w b m dk os
      exact ⟨fun _ => Nat.le_refl _, fun k j v hj hv => by
        have hkb : k ≠ b := fun e => by rw [e, a4] at hj; omega
        have hkl : k < w.heap.size := by
          rcases Nat.lt_or_ge k w.heap.size with h | h
          · exact h
          · rw [hfr k h] at hj; omega
        rw [World.cell?_of_block (a := ⟨k, j, none⟩) (q1 k hkl hkb)]; exact hv, Nat.le_refl _, fun _ _ => rfl⟩
    have hcmp : CmpLays Tryz.prog 163 #[] enc 4 cf b 0 (List.finRange l.length).toArray.size w := fun m os dk _ x y => by
      have hx := x.2
      have hy := y.2
      have r1 := (rep_v ((hrepc x 0 (.v (.int .i64 l[x].fund)) (by decide) rfl).keep (hkW m dk os))).1
      have r2 := (rep_v ((hrepc y 0 (.v (.int .i64 l[y].fund)) (by decide) rfl).keep (hkW m dk os))).1
      have := funds1_calls (sortWorldK enc 4 w b 0 m dk os) (cur.getD (x.1 * 4 + 1) undef) (cur.getD (x.1 * 4 + 2) undef) (cur.getD (x.1 * 4 + 3) undef) (cur.getD (y.1 * 4 + 1) undef) (cur.getD (y.1 * 4 + 2) undef) (cur.getD (y.1 * 4 + 3) undef) l[x].fund l[y].fund
        (hcell _ (by omega)) (hcell _ (by omega)) (hcell _ (by omega)) (hcell _ (by omega)) (hcell _ (by omega)) (hcell _ (by omega))
      show Calls _ _ #[.agg #[cur.getD (x.1 * 4) undef, _, _, _], .agg #[cur.getD (y.1 * 4) undef, _, _, _]] _ _
      simp only [Nat.add_zero] at r1 r2
      rw [r1, r2]
      exact this
    have hdsz : (List.finRange l.length).toArray.size = l.length := by simp
    have hdg : ∀ i, (hi : i < l.length) → (List.finRange l.length).toArray[i]! = ⟨i, hi⟩ := fun i hi => by
      rw [getElem!_pos _ i (by simpa using hi)]; simp
    have hH : HoldsK enc 4 w b 0 (List.finRange l.length).toArray := fun j hj => by
      rw [Sort.size_flatK, hdsz] at hj
      rw [Nat.zero_add]
      refine ⟨?_, ?_⟩
      · rw [cell_of_row w b j cur e (0, 0) a1, Sort.get_flatK _ _ _ _ (by rw [hdsz]; exact hj), hdg _ (by omega), henc _ _ (by omega)]
        have e1 : j / 4 * 4 + j % 4 = j := by omega
        rw [e1]
        simp [Array.getD, show j < cur.size by omega]
      · simp [World.frozen?, a1]
    have hT : ∀ x y : Fin l.length, (ltOf cf) x y = false → (ltOf cf) y x = false → x = y := fun x y hx hy => by
      simp only [ltOf, decide_eq_false_iff_not] at hx hy
      have := cmpI_eq _ _ hx hy
      have hp := List.pairwise_iff_getElem.1 hnd
      apply Fin.ext
      rcases Nat.lt_trichotomy x.1 y.1 with h | h | h
      · exact absurd (by simpa using this) (hp x.1 y.1 (by simp) (by simp) h)
      · exact h
      · exact absurd (by simpa using this.symm) (hp y.1 x.1 (by simp) (by simp) h)
    have eg : ∀ args w, (callFunc 163 args).run Tryz.prog w = .ok (.enter 163 args) w := enters_of Tryz.func163 (by kernel_rfl) rfl
    have key := AnyQ.slices_SortFunc_total Tryz.sortLine 4 Tryz.isAgg53 Tryz.sizeOf53 enc (fun _ => rfl) h1 cf (swo_ints fun i : Fin l.length => l[i].fund) 163 #[] b 0 c (List.finRange l.length).toArray w eg hcmp hH hblt (by rw [hdsz]; exact hln) hT
    rw [hdsz] at key
    refine Calls.mono key ?_
    rintro e' w' ⟨rfl, m, os, rfl⟩
    have hperm := List.mergeSort_perm (List.finRange l.length) (fun x y => !(ltOf cf) y x)
    have hsort := List.pairwise_mergeSort (le := fun x y => !(ltOf cf) y x) (fun x y z h1 h2 => by
        have hs := (swo_ints fun i : Fin l.length => l[i].fund).ntrans z y x
        simp only [Bool.not_eq_true'] at h1 h2 ⊢
        exact hs h2 h1) (fun x y => by
        cases hxy : ltOf cf y x
        · simp
        · have : ltOf cf x y = false := by
            simp only [ltOf, decide_eq_true_eq, decide_eq_false_iff_not] at hxy ⊢
            exact cmpI_asymm _ _ hxy
          simp [this]) (List.finRange l.length)
    have htl : (List.finRange l.length).toArray.toList = List.finRange l.length := by simp
    rw [htl]
    generalize hds : List.mergeSort (List.finRange l.length) (fun x y => !(ltOf cf) y x) = ds at hperm hsort
    have hlen : ds.length = l.length := by rw [hperm.length_eq]; simp
    have hget : (List.finRange l.length).map (fun i => l[i]) = l := by
      apply List.ext_getElem
      · simp
      · intro i h1 h2; simp
    have hnodup : ds.Nodup := hperm.nodup_iff.2 (List.nodup_finRange _)
    obtain ⟨q1, q2, q3⟩ := sortW_heap4 enc w b m ds.toArray os
    refine fin _ (ds.map fun i => l[i]) ?_ ?_ ⟨rfl, rfl, rfl⟩ q2 q1 fun hk => ?_
    · have := hperm.map fun i : Fin l.length => l[i]
      rw [hget] at this; exact this
    · rw [List.pairwise_map]
      refine (hsort.and hnodup).imp fun {x y} hxy => ?_
      obtain ⟨hle, hne⟩ := hxy
      by_cases hlt : cf x y < 0
      · exact hlt
      · exact absurd (hT x y (by simpa [ltOf] using hlt) (by simpa using hle)) hne
    · refine ⟨_, q3 cur e (0, 0) a1, by simp [Sort.putCells, a2], by rw [flat_length (sz := 4) (fun x hx => by obtain ⟨p, -, rfl⟩ := List.mem_map.1 hx; rfl)]; simp; omega, a4, fun j hj => ?_, fun j u hu => ?_⟩
      all_goals
        have hj' : j < l.length * 4 := by
          have hfl2 : (flat ((ds.map fun i => l[i]).map lnAv)).length = l.length * 4 := by
            rw [flat_length (sz := 4) (fun x hx => by obtain ⟨p, -, rfl⟩ := List.mem_map.1 hx; rfl)]; simp [hlen]
          first
            | omega
            | (rcases Nat.lt_or_ge j (l.length * 4) with h' | h'
               · exact h'
               · rw [List.getElem?_eq_none (by omega)] at hu; cases hu)
        have hjd : j / 4 < ds.length := by omega
        have hnew : (Sort.putCells id 0 (flatK enc 4 ds.toArray) cur).getD j undef = cur.getD (ds[j / 4].1 * 4 + j % 4) undef := by
          have hjc : j < cur.size := by omega
          have e1 : (Sort.putCells id 0 (flatK enc 4 ds.toArray) cur).getD j undef = (flatK enc 4 ds.toArray)[j]! := by
            simp only [Sort.putCells]
            simp [Array.getD, hjc, hlen, hj']
          rw [e1, Sort.get_flatK _ _ _ _ (by simp [hlen]; exact hj'), get!_toArray_fin ds _ hjd, henc _ _ (by omega)]
      · rw [hnew]
        have := ds[j / 4].2
        exact hcell _ (by omega)
      · rw [hnew]
        have hu' : (lnAv l[ds[j / 4]]).cells[j % 4]? = some u := by
          have := flat_ln (ds.map fun i => l[i]) (j / 4) (j % 4) (by simpa using hjd) (by omega)
          rw [show j / 4 * 4 + j % 4 = j by omega, hu] at this
          rw [this]; simp
        exact (hrepc ds[j / 4] (j % 4) u (by omega) hu').keep hk
def sortLnNilSpec : Vm.Spec := fun args h Q => ∃ g, args = [.v (.slice none 0 0), .clo g []] ∧ Q (.tup []) h
theorem does_sortLnNil : Does Tryz.prog 162 sortLnNilSpec := by
  refine ⟨⟨Tryz.f162, Tryz.func162, by kernel_rfl, by decide +kernel⟩, ?_⟩
  rintro args h Q ⟨f, rfl, hq⟩ w g vs hvs hrep hh hfr hlaid
  have hv0 : vs.getD 0 undef = .slice none 0 0 := (rep_v (hrep 0 _ rfl)).1
  have hvs2 : vs = #[.slice none 0 0, vs.getD 1 undef] := by
    have h2 : vs.size = 2 := hvs
    apply Array.ext
    · simpa using h2
    · intro i hi1 hi2
      have : i = 0 ∨ i = 1 := by omega
      rcases this with rfl | rfl
      · simpa [Array.getD, h2] using hv0
      · simp [Array.getD, h2]
  rw [hvs2]
  refine (AnyF.slices_SortFunc_none Tryz.sortLine none 0 _ w).mono ?_
  rintro e' w' ⟨rfl, rfl⟩
  exact ⟨.tup [], h, g, .tuple #[], hq, rfl, .tup rfl (fun j u hu => by simp at hu), hh, ⟨rfl, rfl, rfl, Nat.le_refl _, fun _ _ _ => rfl⟩, Nat.le_refl _, fun _ _ => rfl, fun _ _ => rfl, fun i hi h1 => by omega, hfr⟩
end Go.Proofs.Lx
/- Charts: chart, ref21. -/
set_option linter.unusedSimpArgs false
set_option linter.unusedVariables false
namespace Go.Proofs.Lx
open Go.Vm
attribute [local irreducible] awpArr awpBin awpMake awpAppend awpCvX awpStrOf awpBinX awpSlice awpBS awpStore awpAlloc awpCopy awpIndex awpDraw awpIdxX awpFa awpField awpLookup awpUpdate awpDelete awpClear awpRange awpNext awpEntry awpBuild awpClearS awpIdxL awpTree appB awpIdxO eltA treeA
end Go.Proofs.Lx
/- The sums of lines by fund: lines.Funds, lines.Equal. -/
set_option linter.unusedSimpArgs false
set_option linter.unusedVariables false
namespace Go.Proofs.Lx
open Go.Vm
attribute [local irreducible] awpArr awpBin awpMake awpAppend awpCvX awpStrOf awpBinX awpSlice awpBS awpStore awpAlloc awpCopy awpIndex awpDraw awpIdxX awpFa awpField awpLookup awpUpdate awpDelete awpClear awpRange awpNext awpEntry awpBuild awpClearS awpIdxL awpTree appB awpIdxO eltA treeA
def intK (n : Int) : Value := .int .i64 n
def nOf (e : Ent) : Int := match e.key with
  | .int _ n => n
  | _ => 0
def mOf (e : Ent) : Int := match e.val with
  | .v (.int _ n) => n
  | _ => 0
theorem nOf_eq {e : Ent} {k : Int} (h : e.key = intK k) : nOf e = k := by unfold nOf; rw [h]; rfl
def BornI (es : List Ent) (clock : Nat) : Prop := ((es.map (·.born)).Nodup ∧ (es.map nOf).Nodup) ∧ ∀ e ∈ es, e.born < clock
theorem keyEq_int (a b : Int) : keyEq (intK a) (intK b) = (a == b) := by
  have h1 := keyEq_iff (d := .int .i64) (x := intK a) (y := intK b) rfl rfl
  cases h : keyEq (intK a) (intK b)
  · have : ¬ a = b := fun e => by rw [h1.2 (by rw [e])] at h; cases h
    simpa using this
  · have := h1.1 h
    simp only [intK, Value.int.injEq, true_and] at this
    simp [this]
theorem keys_int {es : List Ent} (h : ∀ e ∈ es, ∃ k, e.key = intK k) : ∀ e ∈ es, MapKept.IsKey (.int .i64) e.key := fun e he => by
  obtain ⟨k, hk⟩ := h e he
  rw [hk]; rfl
theorem mget_mputI {v : AV} {c : Nat} (k k' : Int) : ∀ {es : List Ent}, (∀ e ∈ es, ∃ k, e.key = intK k) →
    (mget (intK k') (mput (intK k) v c es)).map Ent.val = if k' = k then some v else (mget (intK k') es).map Ent.val
  | [], _ => by
    simp only [mput, mget, List.find?_cons, List.find?_nil, keyEq_int]
    by_cases h : k' = k
    · simp [h]
    · have h4 : (k' == k) = false := by simpa using h
      simp [h, h4]
  | e :: es, hk => by
    obtain ⟨q, hq⟩ := hk e (List.mem_cons_self ..)
    simp only [mput, hq, keyEq_int]
    by_cases h1 : k = q
    · subst h1
      simp only [beq_self_eq_true, if_true, mget, List.find?_cons, keyEq_int, hq]
      by_cases h : k' = k
      · simp [h]
      · have h4 : (k' == k) = false := by simpa using h
        simp [h, h4]
    · have h2 : (k == q) = false := by simpa using h1
      simp only [h2, Bool.false_eq_true, if_false, mget, List.find?_cons, hq, keyEq_int]
      by_cases h3 : k' = q
      · have : ¬ k' = k := fun e => h1 (e.symm.trans h3)
        simp [h3, Ne.symm h1]
      · have h4 : (k' == q) = false := by simpa using h3
        simp only [h4]
        exact mget_mputI k k' fun e he => hk e (List.mem_cons_of_mem _ he)
theorem mput_keysI {q : Int} {v : AV} {c : Nat} : ∀ {es : List Ent}, (∀ e ∈ es, ∃ k, e.key = intK k) → (mput (intK q) v c es).map nOf = es.map nOf ∨ (q ∉ es.map nOf ∧ (mput (intK q) v c es).map nOf = es.map nOf ++ [q])
  | [], _ => .inr ⟨by simp, by simp [mput, nOf, intK]⟩
  | x :: es, hk => by
    obtain ⟨kx, hx⟩ := hk x (List.mem_cons_self ..)
    have hkx : nOf x = kx := nOf_eq hx
    simp only [mput]
    rw [hx, keyEq_int]
    by_cases hq : q = kx
    · left
      subst hq
      have e1 : nOf ⟨intK q, v, x.born⟩ = nOf x := by rw [hkx]; exact nOf_eq rfl
      simp [e1]
    · have hq' : (q == kx) = false := by simpa using hq
      rw [hq']
      simp only [Bool.false_eq_true, if_false, List.map_cons]
      rcases mput_keysI (q := q) (v := v) (c := c) (es := es) (fun e he => hk e (List.mem_cons_of_mem _ he)) with h | ⟨h1, h2⟩
      · left; rw [h]
      · right
        refine ⟨?_, by rw [h2]; rfl⟩
        simp only [List.mem_cons, not_or]
        exact ⟨by rw [hkx]; exact hq, h1⟩
theorem BornI.put {q : Int} {v : AV} {c : Nat} {es : List Ent} (h : BornI es c) (hk : ∀ e ∈ es, ∃ k, e.key = intK k) : BornI (mput (intK q) v c es) (mclk (intK q) es c) := by
  have hkeys : ((mput (intK q) v c es).map nOf).Nodup := by
    rcases mput_keysI (q := q) (v := v) (c := c) hk with h' | ⟨h1, h2⟩
    · rw [h']; exact h.1.2
    · rw [h2, List.nodup_append]
      exact ⟨h.1.2, by simp, fun a ha b hb => by simp only [List.mem_singleton] at hb; subst hb; intro e; exact h1 (e ▸ ha)⟩
  generalize intK q = k at hkeys ⊢
  have hb : ∀ b ∈ es.map (·.born), b < c := fun b hb => by obtain ⟨e, he, rfl⟩ := List.mem_map.1 hb; exact h.2 e he
  have hc : c ≤ mclk k es c := by unfold mclk; split <;> omega
  rcases mput_born (k := k) (v := v) (c := c) (es := es) with h1 | ⟨h1, h2⟩
  · exact ⟨⟨by rw [h1]; exact h.1.1, hkeys⟩, fun e he => Nat.lt_of_lt_of_le (hb _ (h1 ▸ List.mem_map_of_mem he)) hc⟩
  · have h3 : mclk k es c = c + 1 := by simp [mclk, h1]
    refine ⟨⟨?_, hkeys⟩, fun e he => ?_⟩
    · rw [h2, List.nodup_append]
      refine ⟨h.1.1, by simp, fun a ha b hb' => ?_⟩
      simp only [List.mem_singleton] at hb'
      have := hb a ha
      omega
    · have : e.born ∈ es.map (·.born) ++ [c] := h2 ▸ List.mem_map_of_mem he
      rw [h3]
      rcases List.mem_append.1 this with h4 | h4
      · have := hb _ h4; omega
      · simp only [List.mem_singleton] at h4; omega
theorem mget_iffI {es : List Ent} (hk : ∀ e ∈ es, ∃ k, e.key = intK k) (hn : (es.map nOf).Nodup) {k : Int} {e : Ent} : mget (intK k) es = some e ↔ e ∈ es ∧ nOf e = k := by
  constructor
  · intro h
    have hm := mget_mem h
    obtain ⟨q, hq⟩ := hk e hm
    have := List.find?_some (p := fun (e : Ent) => keyEq (intK k) e.key) h
    rw [hq, keyEq_int] at this
    exact ⟨hm, by rw [nOf_eq hq]; exact (by simpa using this : k = q).symm⟩
  · rintro ⟨hm, hke⟩
    cases hf : mget (intK k) es with
    | none =>
      have := List.find?_eq_none.1 hf e hm
      obtain ⟨q, hq⟩ := hk e hm
      rw [hq, keyEq_int, ← hke, nOf_eq hq] at this
      simp at this
    | some e' =>
      have hm' := mget_mem hf
      obtain ⟨q, hq⟩ := hk e' hm'
      have := List.find?_some (p := fun (e : Ent) => keyEq (intK k) e.key) hf
      rw [hq, keyEq_int] at this
      have hkq : k = q := by simpa using this
      rw [inj_of_map hn hm hm' (by rw [hke, nOf_eq hq]; exact hkq)]
theorem w64_add (a b : Int) : w64 (w64 a + b) = w64 (a + b) := by
  show IntKind.i64.wrap _ = IntKind.i64.wrap _
  rw [wrap_i64_toInt, wrap_i64_toInt]
  congr 1
  show BitVec.ofInt 64 (IntKind.i64.wrap a + b) = _
  rw [wrap_i64_toInt, BitVec.ofInt_add, BitVec.ofInt_toInt, ← BitVec.ofInt_add]
theorem w64s_perm {a b : List Int} (h : a.Perm b) : w64s a = w64s b := by
  refine h.foldl_eq' (fun x _ y _ z => ?_) 0
  show w64 (w64 (z + x) + y) = w64 (w64 (z + y) + x)
  rw [w64_add, w64_add]
  congr 1; omega
def sumF (l : List Ln) (n : Int) : Int := w64s ((l.filter (·.fund == n)).map (·.amt))
theorem sumF_step (l : List Ln) (x : Ln) (n : Int) : sumF (l ++ [x]) n = if n = x.fund then w64 (sumF l n + x.amt) else sumF l n := by
  unfold sumF
  rw [List.filter_append, List.map_append]
  by_cases h : n = x.fund
  · subst h
    simp [List.filter_cons, w64s, List.foldl_append]
  · have : (x.fund == n) = false := by simpa using fun e => h e.symm
    simp [List.filter_cons, this, h]
theorem sumF_none {l : List Ln} {n : Int} (h : ¬ ∃ y ∈ l, y.fund = n) : sumF l n = 0 := by
  have : l.filter (·.fund == n) = [] := List.filter_eq_nil_iff.2 fun y hy => by simpa using fun e => h ⟨y, hy, e⟩
  unfold sumF
  rw [this]; rfl
theorem sumF_perm {l l' : List Ln} (h : l.Perm l') (n : Int) : sumF l n = sumF l' n := w64s_perm ((h.filter _).map _)
/-- The sums by fund. -/
def IsFunds (l r : List Ln) : Prop := r.Pairwise (fun a b => a.fund < b.fund) ∧ ∀ x, x ∈ r ↔ ((∃ y ∈ l, y.fund = x.fund) ∧ x = ⟨x.fund, 0, 0, sumF l x.fund⟩)
theorem funds_same {l r r' : List Ln} (h : IsFunds l r) (h' : IsFunds l r') : r = r' := by
  have hp : r.Perm r' := (List.perm_ext_iff_of_nodup (h.1.imp fun {a b} hab e => by subst e; omega) (h'.1.imp fun {a b} hab e => by subst e; omega)).2 fun x => (h.2 x).trans (h'.2 x).symm
  exact hp.eq_of_pairwise (fun a b _ _ h1 h2 => by omega) h.1 h'.1
theorem IsFunds.perm {l l' r : List Ln} (h : IsFunds l r) (hp : l.Perm l') : IsFunds l' r :=
  ⟨h.1, fun x => (h.2 x).trans (by rw [sumF_perm hp]; exact and_congr_left' ⟨fun ⟨y, h1, h2⟩ => ⟨y, hp.mem_iff.1 h1, h2⟩, fun ⟨y, h1, h2⟩ => ⟨y, hp.mem_iff.2 h1, h2⟩⟩)⟩
theorem nodup_le {α : Type} [DecidableEq α] : ∀ {a b : List α}, a.Nodup → (∀ x ∈ a, x ∈ b) → a.length ≤ b.length
  | [], _, _, _ => by simp
  | x :: a, b, hn, h => by
    have hn := List.nodup_cons.1 hn
    have := nodup_le (b := b.erase x) hn.2 fun y hy => (List.mem_erase_of_ne fun e => hn.1 (by rw [← e]; exact hy)).2 (h y (List.mem_cons_of_mem _ hy))
    rw [List.length_erase_of_mem (h x (List.mem_cons_self ..))] at this
    have hb : 0 < b.length := List.length_pos_of_mem (h x (List.mem_cons_self ..))
    simp only [List.length_cons]; omega
theorem IsFunds.len {l r : List Ln} (h : IsFunds l r) : r.length ≤ l.length := by
  have := nodup_le (a := r.map Ln.fund) (b := l.map Ln.fund) (List.pairwise_map.2 (h.1.imp fun {a b} hab => by omega)) fun x hx => by
    obtain ⟨y, hy, rfl⟩ := List.mem_map.1 hx
    obtain ⟨z, hz, e⟩ := ((h.2 y).1 hy).1
    rw [← e]; exact List.mem_map_of_mem hz
  simpa using this
/-- The entries of sums. -/
def SumE (l : List Ln) (es : List Ent) (clk : Nat) : Prop := (∀ e ∈ es, ∃ n, e.key = intK n) ∧ BornI es clk ∧ es.length ≤ l.length ∧
  ∀ n, ((∃ y ∈ l, y.fund = n) → (mget (intK n) es).map Ent.val = some (.v (.int .i64 (sumF l n)))) ∧ ((¬ ∃ y ∈ l, y.fund = n) → mget (intK n) es = none)
theorem SumE.step {l : List Ln} {es : List Ent} {clk : Nat} (h : SumE l es clk) (x : Ln) : SumE (l ++ [x]) (mput (intK x.fund) (.v (.int .i64 (w64 (sumF l x.fund + x.amt)))) clk es) (mclk (intK x.fund) es clk) := by
  obtain ⟨h1, h2, h3, h4⟩ := h
  refine ⟨fun e he => ?_, h2.put h1, ?_, fun n => ?_⟩
  · rcases mput_mem he with h | ⟨h, -⟩
    · exact h1 e h
    · exact ⟨_, h⟩
  · have := mput_length (k := intK x.fund) (v := .v (.int .i64 (w64 (sumF l x.fund + x.amt)))) (c := clk) es
    rw [List.length_append]; simp only [List.length_cons, List.length_nil]; omega
  · have hg := mget_mputI (v := .v (.int .i64 (w64 (sumF l x.fund + x.amt)))) (c := clk) x.fund n h1
    rw [sumF_step]
    by_cases d : n = x.fund
    · subst d
      rw [if_pos rfl] at hg
      rw [if_pos rfl]
      exact ⟨fun _ => hg, fun hn => (hn ⟨x, by simp, rfl⟩).elim⟩
    · rw [if_neg d] at hg
      rw [if_neg d]
      have hiff : (∃ y ∈ l ++ [x], y.fund = n) ↔ ∃ y ∈ l, y.fund = n := ⟨fun ⟨y, hy, e⟩ => by
        rcases List.mem_append.1 hy with hy | hy
        · exact ⟨y, hy, e⟩
        · rw [List.mem_singleton] at hy; subst hy; exact (d e.symm).elim, fun ⟨y, hy, e⟩ => ⟨y, by simp [hy], e⟩⟩
      rw [hiff]
      refine ⟨fun hn => by rw [hg]; exact (h4 n).1 hn, fun hn => ?_⟩
      have := (h4 n).2 hn
      rw [this] at hg
      cases hm : mget (intK n) (mput (intK x.fund) (.v (.int .i64 (w64 (sumF l x.fund + x.amt)))) clk es) with
      | none => rfl
      | some e => rw [hm] at hg; cases hg
def lnE (e : Ent) : Ln := ⟨nOf e, 0, 0, mOf e⟩
theorem SumE.val {l : List Ln} {es : List Ent} {clk : Nat} (h : SumE l es clk) {e : Ent} (he : e ∈ es) : e.key = intK (nOf e) ∧ e.val = .v (.int .i64 (sumF l (nOf e))) ∧ ∃ y ∈ l, y.fund = nOf e := by
  obtain ⟨n, hn⟩ := h.1 e he
  have hnn := nOf_eq hn
  have hg := (mget_iffI h.1 h.2.1.1.2 (k := nOf e) (e := e)).2 ⟨he, rfl⟩
  have hex : ∃ y ∈ l, y.fund = nOf e := Classical.byContradiction fun hc => by
    rw [(h.2.2.2 _).2 hc] at hg; cases hg
  have := (h.2.2.2 _).1 hex
  rw [hg] at this
  exact ⟨by rw [hnn]; exact hn, by simpa using this, hex⟩
theorem SumE.funds {l : List Ln} {es done : List Ent} {clk : Nat} {r : List Ln} (h : SumE l es clk) (hd : done.Perm es) (hp : r.Perm (done.map lnE)) (hs : r.Pairwise (fun a b => cmpI a.fund b.fund < 0)) : IsFunds l r := by
  refine ⟨hs.imp fun {a b} hab => (cmpI_lt _ _).1 hab, fun x => ?_⟩
  rw [hp.mem_iff, List.mem_map]
  constructor
  · rintro ⟨e, he, rfl⟩
    obtain ⟨h1, h2, h3⟩ := h.val (hd.mem_iff.1 he)
    refine ⟨h3, ?_⟩
    have hm : mOf e = sumF l (nOf e) := by unfold mOf; rw [h2]
    simp only [lnE, hm]
  · rintro ⟨hex, hx⟩
    have := (h.2.2.2 _).1 hex
    cases hm : mget (intK x.fund) es with
    | none => rw [hm] at this; cases this
    | some e =>
      obtain ⟨he, hn⟩ := (mget_iffI h.1 h.2.1.1.2).1 hm
      refine ⟨e, hd.mem_iff.2 he, ?_⟩
      obtain ⟨h1, h2, h3⟩ := h.val he
      have hmm : mOf e = sumF l (nOf e) := by unfold mOf; rw [h2]
      rw [hx]
      simp only [lnE, hmm, hn]
theorem SumE.nodup {l : List Ln} {es done : List Ent} {clk : Nat} (h : SumE l es clk) (hd : done.Perm es) : ((done.map lnE).map Ln.fund).Nodup := by
  rw [List.map_map]
  have : (done.map nOf).Nodup := ((hd.map nOf).nodup_iff).2 h.2.1.1.2
  exact this
theorem does_sortLine : Does Tryz.prog 162 (orS sortLnSpec sortLnNilSpec) := does_or does_sortLn does_sortLnNil
def fundsSpec : Vm.Spec := fun args h Q => ∃ l : List Ln, l.length ≤ 1073741824 ∧ args = [.sl 4 (l.map lnAv)] ∧ ∀ r h', IsFunds l r → Same h h' [] → Q (.own true 53 4 (r.map lnAv)) h'
set_option maxRecDepth 20000 in
set_option maxHeartbeats 1000000 in
theorem does_funds : Does Tryz.prog 123 fundsSpec := by
  refine does_of_awp (good_cons does_sortLine good_nil) Tryz.func123 rfl (by decide +kernel) (by decide +kernel) ?_
  rintro args h Q ⟨l, hl, rfl, hq⟩
  refine ⟨by simp [Tryz.f123], ?_⟩
  rw [awpFunc_some (by rfl)]
  simp -dsimp only [Vm.G, List.lookup, Nat.reduceAdd, Nat.reduceBEq, Int.reduceBNe, Int.reduceBEq, Nat.reduceLeDiff, q123]
  refine awp_loop (fun m s h' => ∃ (i : Nat) (es : List Ent) (clk : Nat), i + m = l.length ∧ SumE (l.take i) es clk ∧ h' = h ++ [.map es clk] ∧ s = mk [(3, .mp h.length), (10, .sl 4 (l.map lnAv)), (11, .v (.int .i64 l.length)), (12, .v (.int .i64 (i : Nat)))])
    l.length _ (le_mk _ ?_) ⟨0, [], 0, by omega, ⟨by simp, ⟨⟨.nil, .nil⟩, by simp⟩, by simp, fun n => ⟨fun ⟨y, hy, _⟩ => by simp at hy, fun _ => rfl⟩⟩, rfl, rfl⟩ ?_
  · simp only [List.forall_mem_cons, List.not_mem_nil, false_imp_iff, implies_true, and_true]
    try simp -dsimp only [Vm.G, List.lookup, Nat.reduceAdd, Nat.reduceBEq, Int.reduceBNe, Int.reduceBEq, Nat.reduceLeDiff, q123]
    repeat' first | exact Fg.refl _ | exact Fg.nil _ _ _ (by decide) | refine And.intro ?_ ?_
  · rintro m s h' ⟨i, es, clk, hi, hE, rfl, rfl⟩
    simp -dsimp only [Vm.G, List.lookup, Nat.reduceAdd, Nat.reduceBEq, Int.reduceBNe, Int.reduceBEq, Nat.reduceLeDiff, q123]
    refine cond_intro (fun hcc => ?_) (fun hcc => ?_)
    · have hlt : i < l.length := by have := of_decide_eq_true hcc; omega
      have hw : IntKind.i64.wrap ((i : Int) + 1) = ((i + 1 : Nat) : Int) := by rw [wrap_i64 (by omega) (by omega)]; simp
      have hst := hE.step l[i]
      rw [← List.take_succ_eq_append_getElem hlt] at hst
      obtain ⟨x, hx⟩ : ∃ x, l[i] = x := ⟨_, rfl⟩
      have hel := hE.2.2.2 x.fund
      rw [hx] at hst
      simp -dsimp only [Vm.G, List.lookup, Nat.reduceAdd, Nat.reduceBEq, Int.reduceBNe, Int.reduceBEq, Nat.reduceLeDiff, q123]
      refine idx_map lnAv l i hlt ?_
      simp only [hx, lnAv, lnCells]
      simp -dsimp only [Vm.G, List.lookup, Nat.reduceAdd, Nat.reduceBEq, Int.reduceBNe, Int.reduceBEq, Nat.reduceLeDiff, q123, AV.cells]
      have fin : ∀ a : Int, a = sumF (l.take i) x.fund → SumE (l.take (i + 1)) (mput (intK x.fund) (.v (.int .i64 (IntKind.i64.wrap (a + x.amt)))) clk es) (mclk (intK x.fund) es clk) := fun a ha => by rw [ha]; exact hst
      refine lookup_intro mt215 z3 es clk (heap_last _ _) rfl (keys_int hE.1) (fun e he => ?_) (fun he => ?_)
      · have he : mget (intK x.fund) es = some e := he
        have hex : ∃ y ∈ l.take i, y.fund = x.fund := Classical.byContradiction fun hc => by rw [hel.2 hc] at he; cases he
        have hv := hel.1 hex
        rw [he] at hv
        have hv : e.val = .v (.int .i64 (sumF (l.take i) x.fund)) := by simpa using hv
        have f2 := fin _ rfl
        simp -dsimp only [Vm.G, List.lookup, Nat.reduceAdd, Nat.reduceBEq, Int.reduceBNe, Int.reduceBEq, Nat.reduceLeDiff, q123, hv, lookRes, cst, Bool.false_eq_true, if_false]
        refine update_intro mt215 es clk (heap_last _ _) (kv := .int .i64 x.fund) (by rfl) (keys_int hE.1) ?_
        simp -dsimp only [Vm.G, List.lookup, Nat.reduceAdd, Nat.reduceBEq, Int.reduceBNe, Int.reduceBEq, Nat.reduceLeDiff, q123, heap_setLast]
        refine kept_intro ⟨l.length - (i + 1), by omega, _, le_mk [(3, .mp h.length), (10, .sl 4 (l.map lnAv)), (11, .v (.int .i64 l.length)), (12, .v (.int .i64 (i + 1 : Nat)))] ?_, i + 1, _, _, by omega, f2, rfl, rfl⟩
        simp only [List.forall_mem_cons, List.not_mem_nil, false_imp_iff, implies_true, and_true, hw]
        try simp -dsimp only [Vm.G, List.lookup, Nat.reduceAdd, Nat.reduceBEq, Int.reduceBNe, Int.reduceBEq, Nat.reduceLeDiff, q123, hw]
        repeat' first | exact Fg.refl _ | exact Fg.nil _ _ _ (by decide) | refine And.intro ?_ ?_
      · have hne : ¬ ∃ y ∈ l.take i, y.fund = x.fund := fun hc => by have := hel.1 hc; rw [show mget (intK x.fund) es = none from he] at this; cases this
        have f2 := fin 0 (sumF_none hne).symm
        have k0 : ∀ v b, lookRes false v b = v := fun _ _ => rfl
        simp -dsimp only [Vm.G, List.lookup, Nat.reduceAdd, Nat.reduceBEq, Int.reduceBNe, Int.reduceBEq, Nat.reduceLeDiff, q123, k0]
        refine update_intro mt215 es clk (heap_last _ _) (kv := .int .i64 x.fund) (by rfl) (keys_int hE.1) ?_
        simp -dsimp only [Vm.G, List.lookup, Nat.reduceAdd, Nat.reduceBEq, Int.reduceBNe, Int.reduceBEq, Nat.reduceLeDiff, q123, heap_setLast]
        refine kept_intro ⟨l.length - (i + 1), by omega, _, le_mk [(3, .mp h.length), (10, .sl 4 (l.map lnAv)), (11, .v (.int .i64 l.length)), (12, .v (.int .i64 (i + 1 : Nat)))] ?_, i + 1, _, _, by omega, f2, rfl, rfl⟩
        simp only [List.forall_mem_cons, List.not_mem_nil, false_imp_iff, implies_true, and_true, hw]
        try simp -dsimp only [Vm.G, List.lookup, Nat.reduceAdd, Nat.reduceBEq, Int.reduceBNe, Int.reduceBEq, Nat.reduceLeDiff, q123, hw]
        repeat' first | exact Fg.refl _ | exact Fg.nil _ _ _ (by decide) | refine And.intro ?_ ?_
    · have hge : ¬ i < l.length := by have := of_decide_eq_false hcc; omega
      rw [List.take_of_length_le (by omega)] at hE
      have g0 := heap_last h (AObj.map es clk)
      have hsame := Same.more h [AObj.map es clk]
      generalize h ++ [AObj.map es clk] = hh at g0 hsame ⊢
      simp -dsimp only [Vm.G, List.lookup, Nat.reduceAdd, Nat.reduceBEq, Int.reduceBNe, Int.reduceBEq, Nat.reduceLeDiff, q123]
      refine range_intro mt215 es clk g0 ?_
      simp -dsimp only [Vm.G, List.lookup, Nat.reduceAdd, Nat.reduceBEq, Int.reduceBNe, Int.reduceBEq, Nat.reduceLeDiff, q123]
      refine awp_loop (fun m s h' => ∃ done : List Ent, m = (leftE es (done.map (·.born))).length ∧ done.length + m ≤ es.length ∧ h' = hh ∧ (∀ d ∈ done, d ∈ es) ∧ (done.map (·.born)).Nodup ∧ s = mk [(6, .own true 53 4 (((done).map lnE).map lnAv)), (25, .iter h.length clk ((done).map (·.born)) clk)])
        es.length _ (le_mk _ ?_) ⟨[], (congrArg List.length (List.filter_eq_self.2 fun _ _ => rfl)).symm, by simp, rfl, by simp, by simp, rfl⟩ ?_
      · simp only [List.forall_mem_cons, List.not_mem_nil, false_imp_iff, implies_true, and_true]
        try simp -dsimp only [Vm.G, List.lookup, Nat.reduceAdd, Nat.reduceBEq, Int.reduceBNe, Int.reduceBEq, Nat.reduceLeDiff, q123]
        repeat' first | exact Fg.refl _ | exact Fg.nil _ _ _ (by decide) | refine And.intro ?_ ?_
      · clear hi hcc hge
        rintro m s h' ⟨done, rfl, hlen, rfl, hd, hdn, rfl⟩
        simp -dsimp only [Vm.G, List.lookup, Nat.reduceAdd, Nat.reduceBEq, Int.reduceBNe, Int.reduceBEq, Nat.reduceLeDiff, q123]
        refine next_intro es clk g0 (fun e he => hE.2.1.2 e he) (Nat.le_refl _) (fun hlf => ?_) (fun e he => ?_)
        · have hD : done.Perm es := seen_all hE.2.1.1.1 hd hdn hlf
          have hnd := hE.nodup hD
          have hel := hE.2.2.1
          have hdl := hD.length_eq
          simp -dsimp only [Vm.G, List.lookup, Nat.reduceAdd, Nat.reduceBEq, Int.reduceBNe, Int.reduceBEq, Nat.reduceLeDiff, q123]
          refine call_in _ _ _ ?_
          simp -dsimp only [Vm.G, List.lookup, Nat.reduceAdd, Nat.reduceBEq, Int.reduceBNe, Int.reduceBEq, Nat.reduceLeDiff, q123, callI_eq, ownSl_own, ownSl_alias]
          refine callI_tup (S := orS sortLnSpec sortLnNilSpec) (fun xs' => ∃ l' : List Ln, xs' = l'.map lnAv ∧ l'.Perm (done.map lnE) ∧ l'.Pairwise (fun a b => cmpI a.fund b.fund < 0)) rfl
            (fun xs' hx => ?_) (fun hx => ⟨?_, fun Q' hq' => .inr ⟨_, rfl, hq'⟩⟩) (fun c hc Q' hq' => .inl ⟨done.map lnE, _, c, 53, by rw [List.length_map], rfl, hnd, by rw [List.length_map]; omega, by rw [List.length_map] at hc; exact hc, fun l' hp hs => hq' _ _ ⟨l', rfl, hp, hs⟩ ?_⟩) (fun xs' hx => ?_)
          · obtain ⟨l', rfl, hp, hs⟩ := hx
            exact ⟨fun x hx => (hp.map lnAv).mem_iff.1 hx, by rw [List.length_map, List.length_map, hp.length_eq]⟩
          · have hnil : done.map lnE = [] := List.map_eq_nil_iff.1 hx
            exact ⟨[], rfl, by rw [hnil], .nil⟩
          · rw [List.take_of_length_le]
            rw [flat_length (sz := 4) (fun x hx => by obtain ⟨p, -, rfl⟩ := List.mem_map.1 hx; rfl)]
            exact Nat.le_refl _
          · obtain ⟨l', rfl, hp, hs⟩ := hx
            simp -dsimp only [Vm.G, List.lookup, Nat.reduceAdd, Nat.reduceBEq, Int.reduceBNe, Int.reduceBEq, Nat.reduceLeDiff, q123]
            exact hq l' _ (hE.funds hD hp hs) hsame
        · obtain ⟨hem, heb⟩ := left_mem he
          obtain ⟨hk, hv, hex⟩ := hE.val hem
          obtain ⟨hd2, hdn2⟩ := done_more he hd hdn
          have hless := left_less he
          have emap : (done ++ [e]).map (·.born) = done.map (·.born) ++ [e.born] := by simp
          have hln : lnE e = ⟨nOf e, 0, 0, sumF l (nOf e)⟩ := by unfold lnE mOf; rw [hv]
          have hlnn := hE.2.2.1
          simp -dsimp only [Vm.G, List.lookup, Nat.reduceAdd, Nat.reduceBEq, Int.reduceBNe, Int.reduceBEq, Nat.reduceLeDiff, q123]
          refine entry_intro es clk e g0 (find_born hE.2.1.1.1 hem) ?_
          simp only [hk, hv, intK]
          simp -dsimp only [Vm.G, List.lookup, Nat.reduceAdd, Nat.reduceBEq, Int.reduceBNe, Int.reduceBEq, Nat.reduceLeDiff, q123]
          refine bs_intro zr53 (by decide) (by decide) rfl rfl (by simp [solid, AV.cells]) ?_
          simp -dsimp only [Vm.G, List.lookup, Nat.reduceAdd, Nat.reduceBEq, Int.reduceBNe, Int.reduceBEq, Nat.reduceLeDiff, q123]
          refine app_sl Tryz.underlying51 (by simp [AV.cells]) (by simp only [List.length_map, List.length_cons, List.length_nil]; omega) ?_
          simp -dsimp only [Vm.G, List.lookup, Nat.reduceAdd, Nat.reduceBEq, Int.reduceBNe, Int.reduceBEq, Nat.reduceLeDiff, q123]
          refine kept_intro ⟨_, hless, _, le_mk [(6, .own true 53 4 (((done ++ [e]).map lnE).map lnAv)), (25, .iter h.length clk ((done ++ [e]).map (·.born)) clk)] ?_, done ++ [e], by rw [emap], by rw [List.length_append]; simp only [List.length_cons, List.length_nil]; omega, rfl, hd2, hdn2, rfl⟩
          simp only [List.forall_mem_cons, List.not_mem_nil, false_imp_iff, implies_true, and_true, List.map_append, List.map_cons, List.map_nil, hln, lnAv, lnCells]
          try simp -dsimp only [Vm.G, List.lookup, Nat.reduceAdd, Nat.reduceBEq, Int.reduceBNe, Int.reduceBEq, Nat.reduceLeDiff, q123, List.map_append, List.map_cons, List.map_nil, hln, lnAv, lnCells]
          repeat' first | exact Fg.refl _ | exact Fg.nil _ _ _ (by decide) | refine And.intro ?_ ?_
end Go.Proofs.Lx
/- What balances come to: plain laws for TrialRight and what is akin. -/
set_option linter.unusedSimpArgs false
set_option linter.unusedVariables false
namespace Go.Proofs.Lx
open Go.Vm
def tot {α : Type} (g : α → Int) : List α → Int
  | [] => 0
  | x :: r => g x + tot g r
theorem tot_append {α : Type} (g : α → Int) : ∀ a b : List α, tot g (a ++ b) = tot g a + tot g b
  | [], b => by show tot g b = 0 + _; omega
  | x :: r, b => by
    show g x + tot g (r ++ b) = g x + tot g r + tot g b
    rw [tot_append g r b]; omega
theorem tot_congr {α : Type} {g g' : α → Int} : ∀ {l : List α}, (∀ x ∈ l, g x = g' x) → tot g l = tot g' l
  | [], _ => rfl
  | x :: r, h => by
    show g x + tot g r = g' x + tot g' r
    rw [h x (List.mem_cons_self ..), tot_congr fun y hy => h y (List.mem_cons_of_mem _ hy)]
theorem tot_add {α : Type} (g g' : α → Int) : ∀ l : List α, tot (fun x => g x + g' x) l = tot g l + tot g' l
  | [] => rfl
  | x :: r => by
    show g x + g' x + tot _ r = g x + tot g r + (g' x + tot g' r)
    rw [tot_add g g' r]; omega
theorem tot_neg {α : Type} (g : α → Int) : ∀ l : List α, tot (fun x => -g x) l = -tot g l
  | [] => rfl
  | x :: r => by
    show -g x + tot _ r = -(g x + tot g r)
    rw [tot_neg g r]; omega
theorem tot_zero {α : Type} {g : α → Int} : ∀ {l : List α}, (∀ x ∈ l, g x = 0) → tot g l = 0
  | [], _ => rfl
  | x :: r, h => by
    show g x + tot g r = 0
    rw [h x (List.mem_cons_self ..), tot_zero fun y hy => h y (List.mem_cons_of_mem _ hy)]; rfl
theorem tot_map {α β : Type} (g : β → Int) (f : α → β) : ∀ l : List α, tot g (l.map f) = tot (fun x => g (f x)) l
  | [] => rfl
  | x :: r => by
    show g (f x) + tot g (r.map f) = g (f x) + _
    rw [tot_map g f r]
theorem tot_one {α : Type} [DecidableEq α] (c : α → Int) : ∀ {K : List α}, K.Nodup → ∀ k, tot (fun j => if k = j then c j else 0) K = if k ∈ K then c k else 0
  | [], _, k => by simp [tot]
  | x :: r, h, k => by
    rw [List.nodup_cons] at h
    show (if k = x then c x else 0) + tot _ r = _
    rw [tot_one c h.2 k]
    by_cases hx : k = x
    · subst hx
      rw [if_pos rfl, if_neg h.1, if_pos (List.mem_cons_self ..)]; omega
    · rw [if_neg hx]
      by_cases hr : k ∈ r
      · rw [if_pos hr, if_pos (List.mem_cons_of_mem _ hr)]; omega
      · rw [if_neg hr, if_neg (by simp [hx, hr])]; rfl
/-- Sums by keys are a sum. -/
theorem tot_groups {α κ : Type} [DecidableEq κ] (key : α → κ) (g : α → Int) (P : κ → Bool) {K : List κ} (hK : K.Nodup) : ∀ {T : List α}, (∀ x ∈ T, key x ∈ K) →
    tot (fun k => if P k = true then tot (fun x => if key x = k then g x else 0) T else 0) K = tot (fun x => if P (key x) = true then g x else 0) T
  | [], _ => tot_zero fun k _ => by simp [tot]
  | x :: r, h => by
    have ih := tot_groups key g P hK fun y hy => h y (List.mem_cons_of_mem _ hy)
    show _ = (if P (key x) = true then g x else 0) + _
    rw [← ih]
    have e : tot (fun k => if P k = true then tot (fun x => if key x = k then g x else 0) (x :: r) else 0) K =
        tot (fun k => (if key x = k then (if P k = true then g x else 0) else 0) + (if P k = true then tot (fun x => if key x = k then g x else 0) r else 0)) K := tot_congr fun k _ => by
      show (if P k = true then (if key x = k then g x else 0) + tot _ r else 0) = _
      by_cases hp : P k = true
      · rw [if_pos hp, if_pos hp, if_pos hp]
      · rw [if_neg hp, if_neg hp, if_neg hp]; split <;> rfl
    rw [e, tot_add, tot_one (fun k => if P k = true then g x else 0) hK, if_pos (h x (List.mem_cons_self ..))]
abbrev Bk := Int × Int
def ck (x : Ln) : Bk := (clampK x.fund, clampK x.obj)
def gsum (T : List Ln) (k : Bk) : Int := tot (fun x => if ck x = k then x.amt else 0) T
def isBk (k : Bk) : Prop := InR k.1 ∧ InR k.2
theorem ck_in (x : Ln) : isBk (ck x) := ⟨clampK_range _, clampK_range _⟩
theorem bal_ck (y : Int) (x : Ln) : balK y x.fund x.obj = balK y (ck x).1 (ck x).2 := by
  unfold balK
  rw [← key_clamp 66 [y, x.fund, x.obj], ← key_clamp 66 [y, (ck x).1, (ck x).2]]
  have e1 : clampK (clampK x.fund) = clampK x.fund := clampK_id (clampK_range _).1 (clampK_range _).2
  have e2 : clampK (clampK x.obj) = clampK x.obj := clampK_id (clampK_range _).1 (clampK_range _).2
  simp only [List.map_cons, List.map_nil, ck, e1, e2]
theorem bal_inj {y : Int} {k k' : Bk} (h : isBk k) (h' : isBk k') (e : balK y k.1 k.2 = balK y k'.1 k'.2) : k = k' := by
  have := (key_inj (by simp) (by simp) e).2
  simp only [List.map_cons, List.map_nil, clampK_id h.1.1 h.1.2, clampK_id h.2.1 h.2.2, clampK_id h'.1.1 h'.1.2, clampK_id h'.2.1 h'.2.2, List.cons.injEq, and_true] at this
  exact Prod.ext this.2.1 this.2.2
/-- The year's balances are what lines come to. -/
def Stands (y : Int) (T : List Ln) (f : Fun) : Prop :=
  (∀ q v, f q = some v → (keyOf 66 [y]).isPrefixOf q = true → ∃ k : Bk, isBk k ∧ q = balK y k.1 k.2 ∧ ∃ n, I64 n ∧ n ≠ 0 ∧ v = be 8 n) ∧
  ∀ k : Bk, isBk k → readOf f (balK y k.1 k.2) = gsum T k
theorem stands_congr {y : Int} {T : List Ln} {f g : Fun} (h : Stands y T f) (he : ∀ q, (keyOf 66 [y]).isPrefixOf q = true → g q = f q) (hp : ∀ k : Bk, (keyOf 66 [y]).isPrefixOf (balK y k.1 k.2) = true) : Stands y T g :=
  ⟨fun q v hq hp2 => h.1 q v (by rw [← he q hp2]; exact hq) hp2, fun k hk => by
    have : readOf g (balK y k.1 k.2) = readOf f (balK y k.1 k.2) := by unfold readOf; rw [he _ (hp k)]
    rw [this]; exact h.2 k hk⟩
theorem bal_pre (y : Int) (k : Bk) : (keyOf 66 [y]).isPrefixOf (balK y k.1 k.2) = true := by
  rw [List.isPrefixOf_iff_prefix]
  refine ⟨be 4 (clampK k.1) ++ be 4 (clampK k.2), ?_⟩
  simp [balK, keyOf, packs]
theorem stands_new {y : Int} {f : Fun} (h : ∀ q, (keyOf 66 [y]).isPrefixOf q = true → f q = none) : Stands y [] f :=
  ⟨fun q v hq hp => (by rw [h q hp] at hq; cases hq), fun k _ => readOf_none (h _ (bal_pre y k))⟩
theorem stands_add {y : Int} {T : List Ln} {f : Fun} {x : Ln} (h : Stands y T f) (he : (balAdd f (balK y x.fund x.obj) x.amt).2 = 0) : Stands y (T ++ [x]) (balAdd f (balK y x.fund x.obj) x.amt).1 := by
  rw [bal_ck] at he ⊢
  have hc := ck_in x
  have hg : gsum (T ++ [x]) (ck x) = gsum T (ck x) + x.amt := by
    unfold gsum
    rw [tot_append]
    show _ + ((if ck x = ck x then x.amt else 0) + 0) = _
    rw [if_pos rfl]; omega
  have hr0 := h.2 (ck x) hc
  generalize hk : ck x = k at *
  unfold balAdd at he ⊢
  cases ha : addA (readOf f (balK y k.1 k.2)) x.amt with
  | none => rw [ha] at he; simp at he
  | some n =>
    simp only
    have hn := addA_i64 ha
    obtain ⟨hs, -⟩ := addA_sum ha
    have hset : ∀ q, balSet f (balK y k.1 k.2) n q = setv f (balK y k.1 k.2) n q := fun q => balSet_app f _ n q
    refine ⟨fun q v hq hp => ?_, fun j hj => ?_⟩
    · rw [hset q] at hq
      unfold setv at hq
      split at hq
      · rename_i e
        split at hq
        · cases hq
        · rename_i h0
          cases hq
          exact ⟨k, hc, e, n, hn, h0, rfl⟩
      · exact h.1 q v hq hp
    · by_cases hjk : j = k
      · subst hjk
        rw [setv_read hn hset, hg, hs, hr0]
      · have hne : balK y j.1 j.2 ≠ balK y k.1 k.2 := fun e => hjk (bal_inj hj hc e)
        have e : readOf (balSet f (balK y k.1 k.2) n) (balK y j.1 j.2) = readOf f (balK y j.1 j.2) := by
          unfold readOf
          rw [hset]
          unfold setv
          rw [if_neg hne]
        rw [e, h.2 j hj]
        unfold gsum
        rw [tot_append]
        show _ = tot _ T + ((if ck x = j then x.amt else 0) + 0)
        rw [hk, if_neg (fun e => hjk e.symm)]
        omega
/-- The balances that a scan tells. -/
theorem balOf_some {y : Int} {k : Bk} {n : Int} (hy : InR y) (hk : isBk k) (hn : I64 n) : balOf y (balK y k.1 k.2, be 8 n) = some ⟨k.1, k.2, 0, n⟩ := by
  unfold balOf
  simp only
  rw [balK, splitOf_key 66 [y, k.1, k.2] (by simp)]
  simp only [List.map_cons, List.map_nil, clampK_id hy.1 hy.2, clampK_id hk.1.1 hk.1.2, clampK_id hk.2.1 hk.2.2, be_length, if_true]
  rw [num8_be n hn]
def lk (x : Ln) : Bk := (x.fund, x.obj)
theorem allB_mem {y : Int} {T : List Ln} {f : Fun} {l : List KV} (hy : InR y) (h : Stands y T f) (hl : ScanIs f (keyOf 66 [y]) l) {x : Ln} :
    x ∈ allB y l ↔ isBk (lk x) ∧ x = ⟨x.fund, x.obj, 0, gsum T (lk x)⟩ ∧ gsum T (lk x) ≠ 0 := by
  constructor
  · intro hx
    obtain ⟨p, hp, e⟩ := List.mem_filterMap.1 hx
    obtain ⟨h1, h2⟩ := (hl.2 p.1 p.2).1 hp
    obtain ⟨k, hk, hq, n, hn, h0, hv⟩ := h.1 _ _ h1 h2
    have hp' : p = (balK y k.1 k.2, be 8 n) := Prod.ext hq hv
    rw [hp', balOf_some hy hk hn] at e
    cases e
    have hr := h.2 k hk
    rw [hq, hv] at h1
    rw [readOf_some hn h1] at hr
    exact ⟨hk, by show (⟨k.1, k.2, 0, n⟩ : Ln) = ⟨k.1, k.2, 0, gsum T k⟩; rw [← hr], by show gsum T k ≠ 0; rw [← hr]; exact h0⟩
  · rintro ⟨hk, e, h0⟩
    have hr := h.2 (lk x) hk
    cases hf : f (balK y (lk x).1 (lk x).2) with
    | none => rw [readOf_none hf] at hr; exact absurd hr.symm h0
    | some v =>
      obtain ⟨k, hk2, hq, n, hn, -, rfl⟩ := h.1 _ _ hf (bal_pre y _)
      rw [readOf_some hn hf] at hr
      refine List.mem_filterMap.2 ⟨(balK y (lk x).1 (lk x).2, be 8 n), (hl.2 _ _).2 ⟨hf, bal_pre y _⟩, ?_⟩
      rw [balOf_some hy hk hn, e, hr]
      rfl
theorem allB_nodup {y : Int} {T : List Ln} {f : Fun} {l : List KV} (hy : InR y) (h : Stands y T f) (hl : ScanIs f (keyOf 66 [y]) l) : ((allB y l).map lk).Nodup := by
  rw [List.Nodup, List.pairwise_map]
  unfold allB
  rw [List.pairwise_filterMap]
  refine hl.1.imp_of_mem fun {p q} hp hq hlt a ha b hb => ?_
  obtain ⟨h1, h2⟩ := (hl.2 p.1 p.2).1 hp
  obtain ⟨h3, h4⟩ := (hl.2 q.1 q.2).1 hq
  obtain ⟨k, hk, e1, n, hn, -, v1⟩ := h.1 _ _ h1 h2
  obtain ⟨k2, hk2, e2, n2, hn2, -, v2⟩ := h.1 _ _ h3 h4
  have hp' : p = (balK y k.1 k.2, be 8 n) := Prod.ext e1 v1
  have hq' : q = (balK y k2.1 k2.2, be 8 n2) := Prod.ext e2 v2
  rw [hp', balOf_some hy hk hn] at ha
  rw [hq', balOf_some hy hk2 hn2] at hb
  cases ha; cases hb
  intro e
  have e : k = k2 := e
  subst e
  have : keyLt p q := hlt
  rw [hp', hq'] at this
  unfold keyLt at this
  simp only at this
  exact absurd this (by rw [cb_self]; decide)
/-- What the balances of some accounts come to is what the lines to them do. -/
theorem allB_tot {y : Int} {T : List Ln} {f : Fun} {l : List KV} (hy : InR y) (h : Stands y T f) (hl : ScanIs f (keyOf 66 [y]) l) (P : Bk → Bool) :
    tot (fun x => if P (lk x) = true then x.amt else 0) (allB y l) = tot (fun x => if P (ck x) = true then x.amt else 0) T := by
  have hnd := allB_nodup hy h hl
  have e1 : tot (fun x => if P (lk x) = true then x.amt else 0) (allB y l) = tot (fun k => if P k = true then gsum T k else 0) ((allB y l).map lk) := by
    rw [tot_map]
    refine tot_congr fun x hx => ?_
    obtain ⟨-, e, -⟩ := (allB_mem hy h hl).1 hx
    have : x.amt = gsum T (lk x) := congrArg Ln.amt e
    rw [this]
  rw [e1]
  have hz : ∀ k, isBk k → k ∉ (allB y l).map lk → gsum T k = 0 := fun k hk hno => Classical.byContradiction fun hc => hno (List.mem_map.2 ⟨⟨k.1, k.2, 0, gsum T k⟩, (allB_mem hy h hl).2 ⟨hk, rfl, hc⟩, rfl⟩)
  generalize (allB y l).map lk = K at hnd hz ⊢
  -- what is lacking
  have hM : ∃ M : List Bk, M.Nodup ∧ (∀ k ∈ M, isBk k ∧ k ∉ K) ∧ ∀ x ∈ T, ck x ∈ K ∨ ck x ∈ M := by
    clear e1 hz h
    induction T with
    | nil => exact ⟨[], .nil, by simp, by simp⟩
    | cons x r ih =>
      obtain ⟨M, m1, m2, m3⟩ := ih
      by_cases hx : ck x ∈ K ∨ ck x ∈ M
      · refine ⟨M, m1, m2, fun z hz => ?_⟩
        rcases List.mem_cons.1 hz with rfl | hz
        · exact hx
        · exact m3 z hz
      · refine ⟨ck x :: M, List.nodup_cons.2 ⟨fun hm => hx (.inr hm), m1⟩, fun k hk => ?_, fun z hz => ?_⟩
        · rcases List.mem_cons.1 hk with rfl | hk
          · exact ⟨ck_in x, fun hk => hx (.inl hk)⟩
          · exact m2 k hk
        · rcases List.mem_cons.1 hz with rfl | hz
          · exact .inr (List.mem_cons_self ..)
          · exact (m3 z hz).imp id (List.mem_cons_of_mem _)
  obtain ⟨M, m1, m2, m3⟩ := hM
  have hKM : (K ++ M).Nodup := List.nodup_append.2 ⟨hnd, m1, fun a ha b hb e => (m2 b hb).2 (e ▸ ha)⟩
  have hg := tot_groups ck (fun x => x.amt) P hKM (T := T) fun x hx => List.mem_append.2 (m3 x hx)
  rw [← hg, tot_append]
  have hM0 : tot (fun k => if P k = true then tot (fun x => if ck x = k then x.amt else 0) T else 0) M = 0 := tot_zero fun k hk => by
    have : tot (fun x => if ck x = k then x.amt else 0) T = 0 := hz k (m2 k hk).1 (m2 k hk).2
    rw [this]
    split <;> rfl
  rw [hM0]
  show tot (fun k => if P k = true then tot (fun x => if ck x = k then x.amt else 0) T else 0) K = _ + 0
  omega
end Go.Proofs.Lx
/- Funds, each once: plain laws for ChartOnce. -/
set_option linter.unusedSimpArgs false
set_option linter.unusedVariables false
namespace Go.Proofs.Lx
open Go.Vm
attribute [local irreducible] awpArr awpBin awpMake awpAppend awpCvX awpStrOf awpBinX awpSlice awpBS awpStore awpAlloc awpCopy awpIndex awpDraw awpIdxX awpFa awpField awpLookup awpUpdate awpDelete awpClear awpRange awpNext awpEntry awpBuild awpClearS awpIdxL awpTree appB awpIdxO eltA treeA
theorem bytes4 (n : Int) : ((byteOf n 3).toNat : Int) = n / 16777216 % 256 ∧ ((byteOf n 2).toNat : Int) = n / 65536 % 256 ∧ ((byteOf n 1).toNat : Int) = n / 256 % 256 ∧ ((byteOf n 0).toNat : Int) = n % 256 := by
  have h3 := byteOf_nat n 3; have h2 := byteOf_nat n 2; have h1 := byteOf_nat n 1; have h0 := byteOf_nat n 0
  simp only [Nat.reduceMul, Int.reducePow, Nat.mul_zero, Int.pow_zero, Int.ediv_one] at h3 h2 h1 h0
  exact ⟨h3, h2, h1, h0⟩
end Go.Proofs.Lx
