/- What the functions of the program do: their contracts. -/
import Derived.Test.YtiggbkhkmecagaaGreatDoorV2
import Derived.Test.YtiggbkhkmecagaaGreatDoorTFs
import Derived.Test.YtiggbkhkmecagaaGreatDoorW0
import Derived.Test.YtiggbkhkmecagaaGreatDoorShelfSs
/- Numbers as bytes: the reference's functions. -/
set_option linter.unusedSimpArgs false
set_option linter.unusedVariables false
namespace Go.Proofs.Lx
open Go.Vm
attribute [local irreducible] awpMake awpAppend awpCvX awpStrOf awpBinX awpSlice awpBS awpStore awpAlloc awpCopy awpIndex awpDraw awpIdxX awpFa awpField awpLookup awpUpdate awpDelete awpClear awpRange awpNext awpEntry awpBuild
end Go.Proofs.Lx
/- The reference's tables: plain laws. -/
set_option linter.unusedSimpArgs false
set_option linter.unusedVariables false
namespace Go.Proofs.Lx
open Go.Vm
abbrev kLt (a b : List UInt8) : Prop := Lib.compareBytes a b < 0
theorem kLt_irrefl (a : List UInt8) : ¬ kLt a a := by unfold kLt; rw [cb_self]; decide
theorem kLt_tri {a b : List UInt8} (h1 : ¬ kLt a b) (h2 : a ≠ b) : kLt b a := Classical.byContradiction fun h => h2 (cb_eq _ _ h1 h)
def tput (k v : List UInt8) : List KV → List KV
  | [] => [(k, v)]
  | p :: r => if kLt p.1 k then p :: tput k v r else if p.1 = k then (k, v) :: r else (k, v) :: p :: r
theorem tput_mem1 {k v : List UInt8} {q : KV} : ∀ {l : List KV}, q ∈ tput k v l → q = (k, v) ∨ q ∈ l
  | [], h => by simp [tput] at h; exact .inl h
  | p :: r, h => by
    simp only [tput] at h
    split at h
    · rcases List.mem_cons.1 h with h | h
      · exact .inr (h ▸ List.mem_cons_self ..)
      · rcases tput_mem1 h with h | h
        · exact .inl h
        · exact .inr (List.mem_cons_of_mem _ h)
    · split at h
      · rcases List.mem_cons.1 h with h | h
        · exact .inl h
        · exact .inr (List.mem_cons_of_mem _ h)
      · rcases List.mem_cons.1 h with h | h
        · exact .inl h
        · exact .inr h
theorem tput_sorted {k v : List UInt8} : ∀ {l : List KV}, l.Pairwise keyLt → (tput k v l).Pairwise keyLt
  | [], _ => by simp [tput]
  | p :: r, h => by
    have h' := List.pairwise_cons.1 h
    simp only [tput]
    split
    · rename_i hlt
      refine List.pairwise_cons.2 ⟨fun q hq => ?_, tput_sorted h'.2⟩
      rcases tput_mem1 hq with rfl | hq
      · exact hlt
      · exact h'.1 q hq
    · rename_i hlt
      split
      · rename_i he
        refine List.pairwise_cons.2 ⟨fun q hq => ?_, h'.2⟩
        have := h'.1 q hq
        show kLt k q.1
        rw [← he]; exact this
      · rename_i hne
        have hk := kLt_tri hlt hne
        refine List.pairwise_cons.2 ⟨fun q hq => ?_, h⟩
        rcases List.mem_cons.1 hq with rfl | hq
        · exact hk
        · exact cb_trans _ _ _ hk (h'.1 q hq)
theorem tput_mem {k v k' v' : List UInt8} : ∀ {l : List KV}, l.Pairwise keyLt → ((k', v') ∈ tput k v l ↔ if k' = k then v' = v else (k', v') ∈ l)
  | [], _ => by simp only [tput, List.mem_singleton, Prod.mk.injEq, List.not_mem_nil]; split <;> simp_all
  | p :: r, h => by
    have h' := List.pairwise_cons.1 h
    have ih := tput_mem (k := k) (v := v) (k' := k') (v' := v') h'.2
    have hnk : ∀ {k'}, ¬ kLt p.1 k' → (k', v') ∈ r → False := fun hn hm => hn (h'.1 _ hm)
    simp only [tput]
    split
    · rename_i hlt
      rw [List.mem_cons, ih]
      by_cases hk : k' = k
      · subst hk
        have : ¬ (k', v') = p := fun e => by rw [← e] at hlt; exact kLt_irrefl _ hlt
        simp [this]
      · simp [hk]
    · rename_i hlt
      split
      · rename_i he
        by_cases hk : k' = k
        · subst hk
          simp only [List.mem_cons, Prod.mk.injEq, true_and, if_true, or_iff_left_iff_imp]
          exact fun hm => (hnk hlt hm).elim
        · have : ¬ (k', v') = p := fun e => hk (by rw [← he, ← e])
          simp [hk, this]
      · rename_i hne
        by_cases hk : k' = k
        · subst hk
          have h3 : ¬ (k', v') = p := fun e => hne (by rw [← e])
          simp only [List.mem_cons, Prod.mk.injEq, true_and, if_true, or_iff_left_iff_imp]
          rintro (hm | hm)
          · exact (h3 hm).elim
          · exact (hnk hlt hm).elim
        · simp [hk]
/-- A table's pairs: what each key has. -/
def TabIs (f : Fun) (l : List KV) : Prop := l.Pairwise keyLt ∧ ∀ k v, (k, v) ∈ l ↔ f k = some v
theorem TabIs.put {f : Fun} {l : List KV} (h : TabIs f l) (k v : List UInt8) : TabIs (upd f k (some v)) (tput k v l) := by
  refine ⟨tput_sorted h.1, fun k' v' => ?_⟩
  rw [tput_mem h.1]
  show _ ↔ (if k' = k then some v else f k') = some v'
  by_cases hk : k' = k
  · simp only [hk, if_true, Option.some.injEq]; exact eq_comm
  · simp only [hk, if_false]; exact h.2 k' v'
theorem TabIs.new : TabIs noF [] := ⟨.nil, fun k v => by simp [noF]⟩
theorem TabIs.scan {f : Fun} {l : List KV} (h : TabIs f l) (pre : List UInt8) : ScanIs f pre (l.filter fun p => pre.isPrefixOf p.1) := by
  refine ⟨h.1.sublist List.filter_sublist, fun k v => ?_⟩
  rw [List.mem_filter, h.2]
/-- Two lists of the same pairs, both rising, are the same. -/
theorem sorted_same : ∀ {l l' : List KV}, l.Pairwise keyLt → l'.Pairwise keyLt → (∀ p, p ∈ l ↔ p ∈ l') → l = l'
  | [], [], _, _, _ => rfl
  | [], q :: r, _, _, h => by have := (h q).2 (List.mem_cons_self ..); cases this
  | p :: r, [], _, _, h => by have := (h p).1 (List.mem_cons_self ..); cases this
  | p :: r, q :: r', h1, h2, h => by
    have g1 := List.pairwise_cons.1 h1
    have g2 := List.pairwise_cons.1 h2
    have e : p = q := by
      rcases List.mem_cons.1 ((h p).1 (List.mem_cons_self ..)) with e | hm
      · exact e
      · rcases List.mem_cons.1 ((h q).2 (List.mem_cons_self ..)) with e | hm2
        · exact e.symm
        · exact absurd (g1.1 q hm2) (cb_asymm _ _ (g2.1 p hm))
    subst e
    congr 1
    refine sorted_same g1.2 g2.2 fun x => ?_
    have hx := h x
    simp only [List.mem_cons] at hx
    constructor
    · intro hm
      rcases hx.1 (.inr hm) with e | e
      · subst e; exact absurd (g1.1 x hm) (kLt_irrefl _)
      · exact e
    · intro hm
      rcases hx.2 (.inr hm) with e | e
      · subst e; exact absurd (g2.1 x hm) (kLt_irrefl _)
      · exact e
theorem ScanIs.same {f : Fun} {pre : List UInt8} {l l' : List KV} (h : ScanIs f pre l) (h' : ScanIs f pre l') : l = l' :=
  sorted_same h.1 h'.1 fun p => (h.2 p.1 p.2).trans (h'.2 p.1 p.2).symm
end Go.Proofs.Lx
/- The reference's tables, walked. -/
set_option linter.unusedSimpArgs false
set_option linter.unusedVariables false
namespace Go.Proofs.Lx
open Go.Vm
attribute [local irreducible] awpArr awpBin awpMake awpAppend awpCvX awpStrOf awpBinX awpSlice awpBS awpStore awpAlloc awpCopy awpIndex awpDraw awpIdxX awpFa awpField awpLookup awpUpdate awpDelete awpClear awpRange awpNext awpEntry awpBuild awpClearS awpIdxL awpTree appB
def tabObj (l : List KV) : AObj := .cells [.sl 2 (l.map kvAv)]
end Go.Proofs.Lx
/- The reference's records: ref17, ref18. -/
set_option linter.unusedSimpArgs false
set_option linter.unusedVariables false
namespace Go.Proofs.Lx
open Go.Vm
attribute [local irreducible] awpArr awpBin awpMake awpAppend awpCvX awpStrOf awpBinX awpSlice awpBS awpStore awpAlloc awpCopy awpIndex awpDraw awpIdxX awpFa awpField awpLookup awpUpdate awpDelete awpClear awpRange awpNext awpEntry awpBuild awpClearS awpIdxL
end Go.Proofs.Lx
/- The reference's view. -/
set_option linter.unusedSimpArgs false
set_option linter.unusedVariables false
namespace Go.Proofs.Lx
open Go.Vm
attribute [local irreducible] awpArr awpBin awpMake awpAppend awpCvX awpStrOf awpBinX awpSlice awpBS awpStore awpAlloc awpCopy awpIndex awpDraw awpIdxX awpFa awpField awpLookup awpUpdate awpDelete awpClear awpRange awpNext awpEntry awpBuild awpClearS awpIdxL
def GaO (x y : AObj) : Prop := x = y ∨ ∃ a b, x = .cells a ∧ y = .cells b ∧ GaL a b
def GaH (h h' : Heap) : Prop := h.length = h'.length ∧ ∀ (i : Nat) (o' : AObj), h'[i]? = some o' → ∃ o : AObj, h[i]? = some o ∧ GaO o o'
theorem GaH.refl (h : Heap) : GaH h h := ⟨rfl, fun i o ho => ⟨o, ho, .inl rfl⟩⟩
structure RId where
  iv : Nat
  iw : Nat
  inn : Nat
  it : Nat
/-- A view of the reference: what each key has. -/
def isRef (h : Heap) (R : RId) (f : Fun) : Prop :=
  ∃ lw ln lt : List KV, h[R.iv]? = some (.cells [.ptr R.iw 0, .ptr R.inn 0, .ptr R.it 0]) ∧ h[R.iw]? = some (tabObj lw) ∧ h[R.inn]? = some (tabObj ln) ∧ h[R.it]? = some (tabObj lt) ∧
    (R.iv ≠ R.inn ∧ R.iv ≠ R.it ∧ R.inn ≠ R.it ∧ R.iw ≠ R.inn ∧ R.iw ≠ R.it) ∧ TabIs f ln ∧ (ln.length ≤ f.n ∧ lt.length ≤ f.n) ∧ ∀ p ∈ ln, p.1.length ≤ 32 ∧ p.2.length ≤ 120
theorem isRef.len {h : Heap} {R : RId} {f : Fun} (hR : isRef h R f) {k l : List UInt8} (hf : f k = some l) : k.length ≤ 32 ∧ l.length ≤ 120 := by
  obtain ⟨lw, ln, lt, -, -, -, -, -, h6, -, h8⟩ := hR
  exact h8 (k, l) ((h6.2 k l).2 hf)
end Go.Proofs.Lx
/- The reference's numbers and years. -/
set_option linter.unusedSimpArgs false
set_option linter.unusedVariables false
namespace Go.Proofs.Lx
open Go.Vm
attribute [local irreducible] awpArr awpBin awpMake awpAppend awpCvX awpStrOf awpBinX awpSlice awpBS awpStore awpAlloc awpCopy awpIndex awpDraw awpIdxX awpFa awpField awpLookup awpUpdate awpDelete awpClear awpRange awpNext awpEntry awpBuild awpClearS awpIdxL
end Go.Proofs.Lx
/- The reference's pairs that begin so; two views beside. -/
set_option linter.unusedSimpArgs false
set_option linter.unusedVariables false
namespace Go.Proofs.Lx
open Go.Vm
attribute [local irreducible] awpArr awpBin awpMake awpAppend awpCvX awpStrOf awpBinX awpSlice awpBS awpStore awpAlloc awpCopy awpIndex awpDraw awpIdxX awpFa awpField awpLookup awpUpdate awpDelete awpClear awpRange awpNext awpEntry awpBuild awpClearS awpIdxL awpTree appB
def Both (h : Heap) (V : VId) (R : RId) (f : Fun) : Prop := isView h V f ∧ isRef h R f ∧ (∀ i ∈ [V.iv, V.ic, V.im], i ∉ [R.iv, R.iw, R.inn, R.it])
theorem get_lt {h : Heap} {i : Nat} {o : AObj} (hx : h[i]? = some o) : i < h.length := by
  rcases Nat.lt_or_ge i h.length with h' | h'
  · exact h'
  · rw [List.getElem?_eq_none h'] at hx; cases hx
theorem Same.get {h h' : Heap} {fp : List Nat} (hs : Same h h' fp) {i : Nat} {o : AObj} (hx : h[i]? = some o) (hi : i ∉ fp) : h'[i]? = some o := by rw [hs.2 i (get_lt hx) hi]; exact hx
theorem isView.same {h h' : Heap} {V : VId} {f : Fun} {fp : List Nat} (hV : isView h V f) (hs : Same h h' fp) (hd : ∀ i ∈ [V.iv, V.ic, V.im], i ∉ fp) : isView h' V f := by
  obtain ⟨chg, clk, mem, clk2, h1, h2, h3, h4⟩ := hV
  exact ⟨chg, clk, mem, clk2, hs.get h1 (hd _ (by simp)), hs.get h2 (hd _ (by simp)), hs.get h3 (hd _ (by simp)), h4⟩
theorem isRef.same {h h' : Heap} {R : RId} {f : Fun} {fp : List Nat} (hR : isRef h R f) (hs : Same h h' fp) (hd : ∀ i ∈ [R.iv, R.iw, R.inn, R.it], i ∉ fp) : isRef h' R f := by
  obtain ⟨lw, ln, lt, h1, h2, h3, h4, h5⟩ := hR
  exact ⟨lw, ln, lt, hs.get h1 (hd _ (by simp)), hs.get h2 (hd _ (by simp)), hs.get h3 (hd _ (by simp)), hs.get h4 (hd _ (by simp)), h5⟩
theorem Both.view {h h' : Heap} {V : VId} {R : RId} {f g : Fun} (hB : Both h V R f) (hV : isView h' V g) (hs : Same h h' [V.ic]) : isRef h' R f := by
  refine hB.2.1.same hs fun i hi hm => ?_
  rw [List.mem_singleton] at hm; subst hm
  exact hB.2.2 V.ic (by simp) hi
end Go.Proofs.Lx
/- exchequerplain: few pairs, the same pairs. -/
set_option linter.unusedSimpArgs false
set_option linter.unusedVariables false
namespace Go.Proofs.Lx
open Go.Vm
attribute [local irreducible] awpArr awpBin awpMake awpAppend awpCvX awpStrOf awpBinX awpSlice awpBS awpStore awpAlloc awpCopy awpIndex awpDraw awpIdxX awpFa awpField awpLookup awpUpdate awpDelete awpClear awpRange awpNext awpEntry awpBuild awpClearS awpIdxL
end Go.Proofs.Lx
/- Years: the reference's list; two lists of numbers. -/
set_option linter.unusedSimpArgs false
set_option linter.unusedVariables false
namespace Go.Proofs.Lx
open Go.Vm
attribute [local irreducible] awpArr awpBin awpMake awpAppend awpCvX awpStrOf awpBinX awpSlice awpBS awpStore awpAlloc awpCopy awpIndex awpDraw awpIdxX awpFa awpField awpLookup awpUpdate awpDelete awpClear awpRange awpNext awpEntry awpBuild awpClearS awpIdxL awpTree
def eqIntSpec : Vm.Spec := fun args h Q => ∃ l l' : List Int, l.length ≤ 9223372036854775807 ∧ args = [.sl 1 (l.map encI), .sl 1 (l'.map encI)] ∧ Q (.v (.bool (decide (l = l')))) h
theorem does_eqInt : Does Tryz.prog 52 eqIntSpec := by
  refine does_of_awp good_nil Tryz.func52 rfl (by decide +kernel) (by decide +kernel) ?_
  rintro args h Q ⟨l, l', hl, rfl, hq⟩
  refine ⟨by simp [Tryz.f52], ?_⟩
  rw [awpFunc_some (by rfl)]
  simp -dsimp only [Vm.E, List.lookup, Nat.reduceAdd, Nat.reduceBEq, Int.reduceBNe, Int.reduceBEq, Bool.true_beq, Bool.false_beq, Tryz.underlying28]
  by_cases hlen : l.length = l'.length
  · have c1 : ((l.length : Int) != l'.length) = false := by simp [hlen]
    simp -dsimp only [Vm.E, List.lookup, Nat.reduceAdd, Nat.reduceBEq, Int.reduceBNe, Int.reduceBEq, Bool.true_beq, Bool.false_beq, c1, Tryz.underlying28]
    refine awp_loop (fun m s h' => ∃ i : Nat, i + m = l.length ∧ h' = h ∧ (∀ j (hj : j < l.length), j < i → l[j] = l'[j]'(by omega)) ∧ s = mk [(0, .sl 1 (l.map encI)), (1, .sl 1 (l'.map encI)), (12, .v (.int .i64 l.length)), (13, .v (.int .i64 i))])
      l.length _ (le_mk _ ?_) ⟨0, by omega, rfl, fun j _ hj => by omega, rfl⟩ ?_
    · simp only [List.forall_mem_cons, List.not_mem_nil, false_imp_iff, implies_true, and_true]
      simp -dsimp only [Vm.E, List.lookup, Nat.reduceAdd, Nat.reduceBEq, Int.reduceBNe, Int.reduceBEq, Bool.true_beq, Bool.false_beq]
      exact ⟨.refl _, .refl _, .refl _, .refl _⟩
    · rintro m s h' ⟨i, hi, rfl, hb, rfl⟩
      simp -dsimp only [Vm.E, List.lookup, Nat.reduceAdd, Nat.reduceBEq, Int.reduceBNe, Int.reduceBEq, Bool.true_beq, Bool.false_beq]
      refine cond_intro (fun hcc => ?_) (fun hcc => ?_)
      · have hlt : i < l.length := by have := of_decide_eq_true hcc; omega
        have hlt' : i < l'.length := by omega
        obtain ⟨x, hx⟩ : ∃ x, l[i] = x := ⟨_, rfl⟩
        obtain ⟨y, hy⟩ : ∃ y, l'[i] = y := ⟨_, rfl⟩
        have hw : IntKind.i64.wrap ((i : Int) + 1) = ((i + 1 : Nat) : Int) := by rw [wrap_i64 (by omega) (by omega)]; simp
        simp -dsimp only [Vm.E, List.lookup, Nat.reduceAdd, Nat.reduceBEq, Int.reduceBNe, Int.reduceBEq, Bool.true_beq, Bool.false_beq]
        refine draw_cont [] (.take 0 (.take 1 (.take 2 (.take 3 (.take 4 (.take 5 (.take 6 (.take 7 (.take 8 (.done)))))))))) (fun s hx => hx = h' ∧ s 24 = .v (.bool (x != y)) ∧ s 0 = .sl 1 (l.map encI) ∧ s 1 = .sl 1 (l'.map encI) ∧ s 12 = .v (.int .i64 l.length) ∧ s 13 = .v (.int .i64 i)) (by kernel_rfl) (by kernel_rfl) (by kernel_rfl) (by decide) ?_ ?_
        · simp -dsimp only [Vm.E, List.lookup, Nat.reduceAdd, Nat.reduceBEq, Int.reduceBNe, Int.reduceBEq, Bool.true_beq, Bool.false_beq, es28, as28]
          refine idx_ints l i hlt ?_
          simp only [hx]
          simp -dsimp only [Vm.E, List.lookup, Nat.reduceAdd, Nat.reduceBEq, Int.reduceBNe, Int.reduceBEq, Bool.true_beq, Bool.false_beq, of3, es28, as28]
          refine idx_ints l' i hlt' ?_
          simp only [hy]
          simp -dsimp only [Vm.E, List.lookup, Nat.reduceAdd, Nat.reduceBEq, Int.reduceBNe, Int.reduceBEq, Bool.true_beq, Bool.false_beq, of3]
        · rintro s hx2 ⟨rfl, e24, e0, e1, e12, e13⟩
          by_cases he : x = y
          · have c2 : (x != y) = false := by simp [he]
            rw [c2] at e24
            simp -dsimp only [Vm.E, List.lookup, Nat.reduceAdd, Nat.reduceBEq, Int.reduceBNe, Int.reduceBEq, Bool.true_beq, Bool.false_beq, e24, e0, e1, e12, e13, hw]
            refine kept_intro ⟨l.length - (i + 1), by omega, _, le_mk [(0, .sl 1 (l.map encI)), (1, .sl 1 (l'.map encI)), (12, .v (.int .i64 l.length)), (13, .v (.int .i64 (i + 1 : Nat)))] ?_, i + 1, by omega, rfl, fun j hj hj2 => ?_, rfl⟩
            · simp only [List.forall_mem_cons, List.not_mem_nil, false_imp_iff, implies_true, and_true]
              simp -dsimp only [Vm.E, List.lookup, Nat.reduceAdd, Nat.reduceBEq, Int.reduceBNe, Int.reduceBEq, Bool.true_beq, Bool.false_beq, e24, e0, e1, e12, e13]
              exact ⟨.refl _, .refl _, .refl _, .refl _⟩
            · by_cases hji : j = i
              · subst hji; rw [hx, hy]; exact he
              · exact hb j hj (by omega)
          · have c2 : (x != y) = true := by simp [he]
            rw [c2] at e24
            have hne : ¬ l = l' := fun e => he (by subst e; rw [← hx, ← hy])
            rw [decide_eq_false hne] at hq
            simp -dsimp only [Vm.E, List.lookup, Nat.reduceAdd, Nat.reduceBEq, Int.reduceBNe, Int.reduceBEq, Bool.true_beq, Bool.false_beq, e24, e0, e1, e12, e13, Tryz.results52]
            exact hq
      · have hge : ¬ i < l.length := by have := of_decide_eq_false hcc; omega
        have he : l = l' := List.ext_getElem hlen fun j h1 h2 => hb j h1 (by omega)
        rw [decide_eq_true he] at hq
        simp -dsimp only [Vm.E, List.lookup, Nat.reduceAdd, Nat.reduceBEq, Int.reduceBNe, Int.reduceBEq, Bool.true_beq, Bool.false_beq, Tryz.results52]
        exact hq
  · have c1 : ((l.length : Int) != l'.length) = true := by simp; omega
    rw [decide_eq_false fun e => hlen (by rw [e])] at hq
    simp -dsimp only [Vm.E, List.lookup, Nat.reduceAdd, Nat.reduceBEq, Int.reduceBNe, Int.reduceBEq, Bool.true_beq, Bool.false_beq, c1, Tryz.results52]
    exact hq
end Go.Proofs.Lx
/- Nodes that go: IndexFunc and DeleteFunc at nodes (printed by gendel.py out of L15). -/
set_option linter.unusedSimpArgs false
set_option linter.unusedVariables false
namespace Go.Proofs.Lx
open Go.Vm
attribute [local irreducible] awpArr awpBin awpMake awpAppend awpCvX awpStrOf awpBinX awpSlice awpBS awpStore awpAlloc awpCopy awpIndex awpDraw awpIdxX awpFa awpField awpLookup awpUpdate awpDelete awpClear awpRange awpNext awpEntry awpBuild awpClearS awpIdxL
def isNd (x : AV) : Prop := ∃ n : Nd, x = .agg [AV.v (.int .i64 n.year), AV.v (.int .i64 n.id), AV.v (.int .i64 n.parent), AV.v (.int .i64 n.fund), AV.v (.int .i64 n.obj), AV.v (.bool n.abs), AV.v (.int .i64 n.limit), AV.v (.int .i64 n.pre), AV.v (.int .i64 n.enc), AV.v (.int .i64 n.exp), AV.v (.int .i64 n.lapsed), AV.v (.int .i64 n.carried)]
theorem isNd.cells {x : AV} (h : isNd x) : x.cells.length = 12 := by obtain ⟨n, rfl⟩ := h; rfl
end Go.Proofs.Lx
/- The tree of nodes: those of a year, those below one. -/
set_option linter.unusedSimpArgs false
set_option linter.unusedVariables false
namespace Go.Proofs.Lx
open Go.Vm
attribute [local irreducible] awpArr awpBin awpMake awpAppend awpCvX awpStrOf awpBinX awpSlice awpBS awpStore awpAlloc awpCopy awpIndex awpDraw awpIdxX awpFa awpField awpLookup awpUpdate awpDelete awpClear awpRange awpNext awpEntry awpBuild awpClearS awpIdxL
theorem filterMap_step {α β : Type} (g : α → Option β) (l : List α) (i : Nat) (hi : i < l.length) : (l.take (i + 1)).filterMap g = (l.take i).filterMap g ++ (g l[i]).toList := by
  rw [List.take_succ_eq_append_getElem hi, List.filterMap_append]
  cases h : g l[i] <;> simp [h]
theorem filterMap_le {α β : Type} (g : α → Option β) (l : List α) (i : Nat) : ((l.take i).filterMap g).length ≤ i := Nat.le_trans (List.length_filterMap_le ..) (by rw [List.length_take]; omega)
theorem key1_length (t : UInt8) (a : Int) : (keyOf t [a]).length = 5 := by simp [keyOf, packs, be_length]
/-- The node of a pair, if it is of the year. -/
def inYear (year : Int) (p : KV) : Option Nd := match nodeOf p.1 p.2 with
  | some n => if n.year = year then some n else none
  | none => none
abbrev allN (year : Int) (l : List KV) : List Nd := l.filterMap (inYear year)
def ballSpec : Vm.Spec := fun args h Q => ∃ (V : VId) (f : Fun) (year : Int), args = [.agg [.ptr V.iv 0, .v (.int .i64 year)]] ∧ isView h V f ∧ f.n ≤ 536870912 ∧
  ∀ l h', ScanIs f (keyOf 78 [year]) l → l.length ≤ 2 * f.n → isView h' V f → Same h h' [] → Q (.own true 93 12 ((allN year l).map ndAv)) h'
set_option maxRecDepth 20000 in
set_option maxHeartbeats 1000000 in
theorem does_ball : Does Tryz.prog 134 ballSpec := by
  refine does_of_awp (good_cons does_key (good_cons does_scan (good_cons does_nodeOf good_nil))) Tryz.func134 rfl (by decide +kernel) (by decide +kernel) ?_
  rintro args h Q ⟨V, f, year, rfl, hV, hn, hq⟩
  refine ⟨by simp [Tryz.f134], ?_⟩
  rw [awpFunc_some (by rfl)]
  simp -dsimp only [Vm.G, List.lookup, Nat.reduceAdd, Nat.reduceBEq, Int.reduceBNe, Int.reduceBEq, Nat.reduceLeDiff, q134]
  refine draw_cont [1] (.take 0 (.take 1 (.take 2 (.take 3 (.take 8 (.alt 4 (.alt 5 (.alt 6 (.take 7 (.done)) .stop) .stop) .stop)))))) (fun s h' => ∃ l, (ScanIs f (keyOf 78 [year]) l ∧ l.length ≤ 2 * f.n ∧ isView h' V f ∧ Same h h' []) ∧ s 1 = .eptr [.ptr V.iv 0, .v (.int .i64 year)] ∧ s 3 = .v (.slice none 0 0) ∧ s 14 = .own true 155 2 (l.map kvAv) ∧ s 15 = .v (.int .i64 l.length) ∧ s 16 = .v (.int .i64 0)) (by kernel_rfl) (by kernel_rfl) (by kernel_rfl) (by decide) ?_ ?_
  · simp -dsimp only [Vm.G, List.lookup, Nat.reduceAdd, Nat.reduceBEq, Int.reduceBNe, Int.reduceBEq, Nat.reduceLeDiff, q134]
    refine bs_intro zr3 (by decide) (by decide) rfl rfl (by simp [solid, AV.cells]) ?_
    simp -dsimp only [Vm.G, List.lookup, Nat.reduceAdd, Nat.reduceBEq, Int.reduceBNe, Int.reduceBEq, Nat.reduceLeDiff, q134]
    refine call_one (S := keySpec) rfl _ GaL.rfl ⟨78, [year], by simp, rfl, ?_⟩
    simp -dsimp only [Vm.G, List.lookup, Nat.reduceAdd, Nat.reduceBEq, Int.reduceBNe, Int.reduceBEq, Nat.reduceLeDiff, q134]
    refine call_one (S := scanSpec) rfl _ GaL.rfl ⟨V, f, keyOf 78 [year], rfl, by rw [key1_length]; decide, hV, hn, fun l h1 hsc hln hV1 hs1 => ?_⟩
    simp -dsimp only [Vm.G, List.lookup, Nat.reduceAdd, Nat.reduceBEq, Int.reduceBNe, Int.reduceBEq, Nat.reduceLeDiff, q134]
    refine ⟨l, ⟨hsc, hln, hV1, hs1⟩, ?_⟩
    repeat' first | rfl | exact True.intro | refine And.intro ?_ ?_
  · rintro s h1 ⟨l, ⟨hsc, hln, hV1, hs1⟩, e1, e3, e14, e15, e16⟩
    simp -dsimp only [Vm.G, List.lookup, Nat.reduceAdd, Nat.reduceBEq, Int.reduceBNe, Int.reduceBEq, Nat.reduceLeDiff, q134, e1, e3, e14, e15, e16]
    refine awp_loop (fun m s h' => ∃ i : Nat, i + m = l.length ∧ h' = h1 ∧ s = mk [(1, .eptr [.ptr V.iv 0, .v (.int .i64 year)]), (3, .own true 93 12 ((allN year (l.take i)).map ndAv)), (14, .own true 155 2 (l.map kvAv)), (15, .v (.int .i64 l.length)), (16, .v (.int .i64 i))])
      l.length _ (le_mk _ ?_) ⟨0, by omega, rfl, rfl⟩ ?_
    · simp only [List.forall_mem_cons, List.not_mem_nil, false_imp_iff, implies_true, and_true, e1, e3, e14, e15, e16]
      try simp -dsimp only [Vm.G, List.lookup, Nat.reduceAdd, Nat.reduceBEq, Int.reduceBNe, Int.reduceBEq, Nat.reduceLeDiff, q134, e1, e3, e14, e15, e16]
      repeat' first | exact Fg.refl _ | exact Fg.nil _ _ _ (by decide) | refine And.intro ?_ ?_
    · rintro m s h' ⟨i, hi, rfl, rfl⟩
      simp -dsimp only [Vm.G, List.lookup, Nat.reduceAdd, Nat.reduceBEq, Int.reduceBNe, Int.reduceBEq, Nat.reduceLeDiff, q134]
      refine cond_intro (fun hcc => ?_) (fun hcc => ?_)
      · have hlt : i < l.length := by have := of_decide_eq_true hcc; omega
        have hw : IntKind.i64.wrap ((i : Int) + 1) = ((i + 1 : Nat) : Int) := by rw [wrap_i64 (by omega) (by omega)]; simp
        have hget : (l.map kvAv)[i]? = some (kvAv l[i]) := by simp [hlt]
        have est := filterMap_step (inYear year) l i hlt
        have hal : (allN year (l.take i)).length ≤ i := filterMap_le (inYear year) l i
        have hin := ((hsc.2 l[i].1 l[i].2).1 (List.getElem_mem hlt)).1
        have hkl : l[i].1.length ≤ 32 := hV.klen hin
        have hvl : l[i].2.length ≤ 120 := hV.len _ _ hin
        clear hin
        generalize l[i] = p at hget est hkl hvl
        obtain ⟨k, v⟩ := p
        simp only at hkl hvl
        have e0 : inYear year (k, v) = match nodeOf k v with | some n => if n.year = year then some n else none | none => none := rfl
        simp -dsimp only [Vm.G, List.lookup, Nat.reduceAdd, Nat.reduceBEq, Int.reduceBNe, Int.reduceBEq, Nat.reduceLeDiff, q134]
        refine idxO_intro (by omega) (by simp; omega) ?_
        simp -dsimp only [Vm.G, List.lookup, Nat.reduceAdd, Nat.reduceBEq, Int.reduceBNe, Int.reduceBEq, Nat.reduceLeDiff, q134, Int.toNat_natCast]
        refine eltA_intro hget ?_
        simp only [kvAv]
        simp -dsimp only [Vm.G, List.lookup, Nat.reduceAdd, Nat.reduceBEq, Int.reduceBNe, Int.reduceBEq, Nat.reduceLeDiff, q134, AV.cells, List.drop_zero]
        refine call_one (S := nodeOfSpec) rfl _ GaL.rfl ⟨k, v, by omega, by omega, rfl, fun n hno => ?_, fun hno => ?_⟩
        · rw [hno] at e0
          simp only at e0
          simp only [ndCells]
          simp -dsimp only [Vm.G, List.lookup, Nat.reduceAdd, Nat.reduceBEq, Int.reduceBNe, Int.reduceBEq, Nat.reduceLeDiff, q134]
          cases c1 : (n.year == year)
          · have d1 : ¬ n.year = year := by simpa using c1
            rw [if_neg d1] at e0
            rw [e0] at est
            simp -dsimp only [Vm.G, List.lookup, Nat.reduceAdd, Nat.reduceBEq, Int.reduceBNe, Int.reduceBEq, Nat.reduceLeDiff, q134]
            refine kept_intro ⟨l.length - (i + 1), by omega, _, le_mk [(1, .eptr [.ptr V.iv 0, .v (.int .i64 year)]), (3, .own true 93 12 ((allN year (l.take (i + 1))).map ndAv)), (14, .own true 155 2 (l.map kvAv)), (15, .v (.int .i64 l.length)), (16, .v (.int .i64 (i + 1 : Nat)))] ?_, i + 1, by omega, rfl, rfl⟩
            simp only [List.forall_mem_cons, List.not_mem_nil, false_imp_iff, implies_true, and_true, hw, est, Option.toList, List.append_nil]
            try simp -dsimp only [Vm.G, List.lookup, Nat.reduceAdd, Nat.reduceBEq, Int.reduceBNe, Int.reduceBEq, Nat.reduceLeDiff, q134, hw, est, Option.toList, List.append_nil]
            repeat' first | exact Fg.refl _ | exact Fg.nil _ _ _ (by decide) | refine And.intro ?_ ?_
          · have d1 : n.year = year := by simpa using c1
            rw [if_pos d1] at e0
            rw [e0] at est
            simp -dsimp only [Vm.G, List.lookup, Nat.reduceAdd, Nat.reduceBEq, Int.reduceBNe, Int.reduceBEq, Nat.reduceLeDiff, q134]
            refine bs_intro zr93 (by decide) (by decide) rfl rfl (by simp [solid, AV.cells]) ?_
            simp -dsimp only [Vm.G, List.lookup, Nat.reduceAdd, Nat.reduceBEq, Int.reduceBNe, Int.reduceBEq, Nat.reduceLeDiff, q134]
            refine app_sl Tryz.underlying84 (by simp [AV.cells]) (by simp only [List.length_map, List.length_cons, List.length_nil]; omega) ?_
            simp -dsimp only [Vm.G, List.lookup, Nat.reduceAdd, Nat.reduceBEq, Int.reduceBNe, Int.reduceBEq, Nat.reduceLeDiff, q134]
            refine kept_intro ⟨l.length - (i + 1), by omega, _, le_mk [(1, .eptr [.ptr V.iv 0, .v (.int .i64 year)]), (3, .own true 93 12 ((allN year (l.take (i + 1))).map ndAv)), (14, .own true 155 2 (l.map kvAv)), (15, .v (.int .i64 l.length)), (16, .v (.int .i64 (i + 1 : Nat)))] ?_, i + 1, by omega, rfl, rfl⟩
            simp only [List.forall_mem_cons, List.not_mem_nil, false_imp_iff, implies_true, and_true, hw, est, Option.toList, List.map_append, List.map_cons, List.map_nil, ndAv, ndCells]
            try simp -dsimp only [Vm.G, List.lookup, Nat.reduceAdd, Nat.reduceBEq, Int.reduceBNe, Int.reduceBEq, Nat.reduceLeDiff, q134, hw, est, Option.toList, List.map_append, List.map_cons, List.map_nil, ndAv, ndCells]
            repeat' first | exact Fg.refl _ | exact Fg.nil _ _ _ (by decide) | refine And.intro ?_ ?_
        · rw [hno] at e0
          simp only at e0
          rw [e0] at est
          simp only [ndCells]
          simp -dsimp only [Vm.G, List.lookup, Nat.reduceAdd, Nat.reduceBEq, Int.reduceBNe, Int.reduceBEq, Nat.reduceLeDiff, q134]
          refine kept_intro ⟨l.length - (i + 1), by omega, _, le_mk [(1, .eptr [.ptr V.iv 0, .v (.int .i64 year)]), (3, .own true 93 12 ((allN year (l.take (i + 1))).map ndAv)), (14, .own true 155 2 (l.map kvAv)), (15, .v (.int .i64 l.length)), (16, .v (.int .i64 (i + 1 : Nat)))] ?_, i + 1, by omega, rfl, rfl⟩
          simp only [List.forall_mem_cons, List.not_mem_nil, false_imp_iff, implies_true, and_true, hw, est, Option.toList, List.append_nil]
          try simp -dsimp only [Vm.G, List.lookup, Nat.reduceAdd, Nat.reduceBEq, Int.reduceBNe, Int.reduceBEq, Nat.reduceLeDiff, q134, hw, est, Option.toList, List.append_nil]
          repeat' first | exact Fg.refl _ | exact Fg.nil _ _ _ (by decide) | refine And.intro ?_ ?_
      · have hge : ¬ i < l.length := by have := of_decide_eq_false hcc; omega
        simp -dsimp only [Vm.G, List.lookup, Nat.reduceAdd, Nat.reduceBEq, Int.reduceBNe, Int.reduceBEq, Nat.reduceLeDiff, q134]
        rw [List.take_of_length_le (by omega)]
        exact hq l h' hsc hln hV1 hs1
def tallSpec : Vm.Spec := fun args h Q => ∃ (V : VId) (f : Fun) (year : Int), args = [.ptr V.iv 0, .v (.int .i64 year)] ∧ isView h V f ∧ f.n ≤ 536870912 ∧
  ∀ l h', ScanIs f (keyOf 78 [year]) l → l.length ≤ 2 * f.n → isView h' V f → Same h h' [] → Q (.own true 93 12 ((allN year l).map ndAv)) h'
theorem does_tall : Does Tryz.prog 58 tallSpec := by
  refine does_of_awp (good_cons does_ball good_nil) Tryz.func58 rfl (by decide +kernel) (by decide +kernel) ?_
  rintro args h Q ⟨V, f, year, rfl, hV, hn, hq⟩
  refine ⟨by simp [Tryz.f58], ?_⟩
  rw [awpFunc_some (by rfl)]
  simp -dsimp only [Vm.G, List.lookup, Nat.reduceAdd, Nat.reduceBEq, Int.reduceBNe, Int.reduceBEq, Nat.reduceLeDiff, q58]
  refine call_one (S := ballSpec) rfl _ GaL.rfl ⟨V, f, year, rfl, hV, hn, fun l h1 hsc hln hV1 hs1 => ?_⟩
  simp -dsimp only [Vm.G, List.lookup, Nat.reduceAdd, Nat.reduceBEq, Int.reduceBNe, Int.reduceBEq, Nat.reduceLeDiff, q58]
  exact hq l h1 hsc hln hV1 hs1
end Go.Proofs.Lx
/- The reference of nodes: ref19, ref28. -/
set_option linter.unusedSimpArgs false
set_option linter.unusedVariables false
namespace Go.Proofs.Lx
open Go.Vm
attribute [local irreducible] awpArr awpBin awpMake awpAppend awpCvX awpStrOf awpBinX awpSlice awpBS awpStore awpAlloc awpCopy awpIndex awpDraw awpIdxX awpFa awpField awpLookup awpUpdate awpDelete awpClear awpRange awpNext awpEntry awpBuild awpClearS awpIdxL awpTree appB awpIdxO eltA treeA
def isI (x : AV) (l : List Int) : Prop := x = .sl 1 (l.map encI) ∨ (l = [] ∧ x = .v (.slice none 0 0))
theorem isI.ga {x : AV} {l : List Int} (h : isI x l) : Ga x (.sl 1 (l.map encI)) := by
  rcases h with rfl | ⟨rfl, rfl⟩
  · exact .refl _
  · exact .nil 1
end Go.Proofs.Lx
/- The law TreeEnds. -/
set_option linter.unusedSimpArgs false
set_option linter.unusedVariables false
namespace Go.Proofs.Lx
open Go.Vm
attribute [local irreducible] awpArr awpBin awpMake awpAppend awpCvX awpStrOf awpBinX awpSlice awpBS awpStore awpAlloc awpCopy awpIndex awpDraw awpIdxX awpFa awpField awpLookup awpUpdate awpDelete awpClear awpRange awpNext awpEntry awpBuild awpClearS awpIdxL
def vnewASpec : Vm.Spec := fun args h Q => args = [nilP] ∧ ∀ V h', isView h' V noF → Q (.ptr V.iv 0) h'
theorem does_vnewA : Does Tryz.prog 13 vnewASpec := does_vnew.imp (by
  rintro args h Q ⟨rfl, hq⟩
  exact ⟨rfl, hq ⟨h.length + 2, h.length, h.length + 1⟩ _ (isView_new h)⟩)
theorem isA_nd {y : AV} (h : IsA (.agg [.int .i64, .int .i64, .int .i64, .int .i64, .int .i64, .bool, .int .i64, .int .i64, .int .i64, .int .i64, .int .i64, .int .i64]) y) : ∃ n : Nd, n.ok ∧ y = ndAv n := by
  simp only [IsA, IsAll] at h
  obtain ⟨ys, ⟨y1, r1, rfl, h1, y2, r2, rfl, h2, y3, r3, rfl, h3, y4, r4, rfl, h4, y5, r5, rfl, h5, y6, r6, rfl, h6, y7, r7, rfl, h7, y8, r8, rfl, h8, y9, r9, rfl, h9, y10, r10, rfl, h10, y11, r11, rfl, h11, y12, r12, rfl, h12, rfl⟩, rfl⟩ := h
  obtain ⟨a1, k1, rfl⟩ := isA_int (by simpa only [IsA] using h1)
  obtain ⟨a2, k2, rfl⟩ := isA_int (by simpa only [IsA] using h2)
  obtain ⟨a3, k3, rfl⟩ := isA_int (by simpa only [IsA] using h3)
  obtain ⟨a4, k4, rfl⟩ := isA_int (by simpa only [IsA] using h4)
  obtain ⟨a5, k5, rfl⟩ := isA_int (by simpa only [IsA] using h5)
  obtain ⟨a6, rfl⟩ := h6
  obtain ⟨a7, k7, rfl⟩ := isA_int (by simpa only [IsA] using h7)
  obtain ⟨a8, k8, rfl⟩ := isA_int (by simpa only [IsA] using h8)
  obtain ⟨a9, k9, rfl⟩ := isA_int (by simpa only [IsA] using h9)
  obtain ⟨a10, k10, rfl⟩ := isA_int (by simpa only [IsA] using h10)
  obtain ⟨a11, k11, rfl⟩ := isA_int (by simpa only [IsA] using h11)
  obtain ⟨a12, k12, rfl⟩ := isA_int (by simpa only [IsA] using h12)
  exact ⟨⟨a1, a2, a3, a4, a5, a6, a7, a8, a9, a10, a11, a12⟩, ⟨k1, k2, k3, k4, k5, k7, k8, k9, k10, k11, k12⟩, rfl⟩
end Go.Proofs.Lx
/- Balances: bal; the law BalBack. -/
set_option linter.unusedSimpArgs false
set_option linter.unusedVariables false
namespace Go.Proofs.Lx
open Go.Vm
attribute [local irreducible] awpArr awpBin awpMake awpAppend awpCvX awpStrOf awpBinX awpSlice awpBS awpStore awpAlloc awpCopy awpIndex awpDraw awpIdxX awpFa awpField awpLookup awpUpdate awpDelete awpClear awpRange awpNext awpEntry awpBuild awpClearS awpIdxL awpTree appB awpIdxO eltA treeA
structure Ln where
  fund : Int
  obj : Int
  node : Int
  amt : Int
end Go.Proofs.Lx
/- Documents, pre-encumbrances: docs.Put, pre. -/
set_option linter.unusedSimpArgs false
set_option linter.unusedVariables false
namespace Go.Proofs.Lx
open Go.Vm
attribute [local irreducible] awpArr awpBin awpMake awpAppend awpCvX awpStrOf awpBinX awpSlice awpBS awpStore awpAlloc awpCopy awpIndex awpDraw awpIdxX awpFa awpField awpLookup awpUpdate awpDelete awpClear awpRange awpNext awpEntry awpBuild awpClearS awpIdxL awpTree appB awpIdxO eltA treeA
structure Dl where
  node : Int
  orig : Int
  liq : Int
  can : Int
def dlCells (x : Dl) : List AV := [.v (.int .i64 x.node), .v (.int .i64 x.orig), .v (.int .i64 x.liq), .v (.int .i64 x.can)]
def dlAv (x : Dl) : AV := .agg (dlCells x)
def Dl.ok (x : Dl) : Prop := I64 x.node ∧ I64 x.orig ∧ I64 x.liq ∧ I64 x.can
structure Dc where
  id : Int
  kind : Int
  year : Int
  frm : Int
  lines : Int
def dcCells (d : Dc) : List AV := [.v (.int .i64 d.id), .v (.int .i64 d.kind), .v (.int .i64 d.year), .v (.int .i64 d.frm), .v (.int .i64 d.lines)]
def Dc.ok (d : Dc) : Prop := I64 d.id ∧ I64 d.kind ∧ I64 d.year ∧ I64 d.frm ∧ I64 d.lines
def dlK (id i : Int) : List UInt8 := keyOf 76 [id, i]
def dlV (x : Dl) : List UInt8 := packOf [x.node, x.orig, x.liq, x.can]
def dcK (id : Int) : List UInt8 := keyOf 68 [id]
def dcV (d : Dc) : List UInt8 := packOf [d.kind, d.year, d.frm, d.lines]
theorem dlK_length (id i : Int) : (dlK id i).length = 9 := by simp [dlK, keyOf, packs, be_length]
theorem dcK_length (id : Int) : (dcK id).length = 5 := by simp [dcK, keyOf, packs, be_length]
theorem dlV_length (x : Dl) : (dlV x).length = 32 := by simp [dlV, packOf, packs, be_length]
theorem dcV_length (d : Dc) : (dcV d).length = 32 := by simp [dcV, packOf, packs, be_length]
theorem right_dl (id i : Int) (x : Dl) : rightKV (dlK id i) (dlV x) = true := by simp [rightKV, dlK_length, dlV_length]
theorem right_dc (id : Int) (d : Dc) : rightKV (dcK id) (dcV d) = true := by simp [rightKV, dcK_length, dcV_length]
theorem does_docLines : Does Tryz.prog 181 (tabSpec 76 2 4) := by
  refine does_of_awp good_nil Tryz.func181 rfl (by decide +kernel) (by decide +kernel) ?_
  rintro args h Q ⟨rfl, hq⟩
  refine ⟨by simp [Tryz.f181], ?_⟩
  rw [awpFunc_some (by rfl)]
  simp -dsimp only [Vm.G, List.lookup, Nat.reduceAdd, Nat.reduceBEq, Int.reduceBNe, Int.reduceBEq, Nat.reduceLeDiff, q181]
  exact hq
theorem does_documents : Does Tryz.prog 183 (tabSpec 68 1 4) := by
  refine does_of_awp good_nil Tryz.func183 rfl (by decide +kernel) (by decide +kernel) ?_
  rintro args h Q ⟨rfl, hq⟩
  refine ⟨by simp [Tryz.f183], ?_⟩
  rw [awpFunc_some (by rfl)]
  simp -dsimp only [Vm.G, List.lookup, Nat.reduceAdd, Nat.reduceBEq, Int.reduceBNe, Int.reduceBEq, Nat.reduceLeDiff, q183]
  exact hq
def rdlSpec : Vm.Spec := fun args h Q => ∃ (id i : Int) (x : Dl), I64 id ∧ I64 i ∧ x.ok ∧ args = [.v (.int .i64 id), .v (.int .i64 i), dlAv x] ∧ Q (.agg [.sl 1 ((dlK id i).map encB), .sl 1 ((dlV x).map encB)]) h
set_option maxRecDepth 20000 in
theorem does_recDl : Does Tryz.prog 107 rdlSpec := by
  refine does_of_awp (good_cons does_docLines (good_cons does_pair good_nil)) Tryz.func107 rfl (by decide +kernel) (by decide +kernel) ?_
  rintro args h Q ⟨id, i, x, hid, hi, ⟨o1, o2, o3, o4⟩, rfl, hq⟩
  refine ⟨by simp [Tryz.f107], ?_⟩
  rw [awpFunc_some (by rfl)]
  simp only [dlAv, dlCells]
  simp -dsimp only [Vm.G, List.lookup, Nat.reduceAdd, Nat.reduceBEq, Int.reduceBNe, Int.reduceBEq, Nat.reduceLeDiff, q107]
  refine draw_cont [5] (.take 1 (.take 2 (.take 3 (.take 4 (.take 5 (.take 6 (.take 7 (.take 8 (.take 9 (.take 10 (.alt 0 (.alt 11 (.alt 12 (.alt 13 (.done) .stop) .stop) .stop) (.alt 11 (.alt 0 (.alt 12 (.alt 13 (.done) .stop) .stop) .stop) (.stop))))))))))))) (fun s h2 => h2 = h ∧ s 6 = .box [.sl 1 ((dlK id i).map encB), .sl 1 ((dlV x).map encB)]) (by kernel_rfl) (by kernel_rfl) (by kernel_rfl) (by decide) ?_ ?_
  · have hm : ∀ m ∈ [id, i, x.node, x.orig, x.liq, x.can], I64 m := fun m hm => by
      simp only [List.mem_cons, List.not_mem_nil, or_false] at hm
      rcases hm with rfl | rfl | rfl | rfl | rfl | rfl <;> assumption
    have e1 : keyOf 76 (([id, i, x.node, x.orig, x.liq, x.can] : List Int).take 2) = dlK id i := rfl
    have e2 : packOf (([id, i, x.node, x.orig, x.liq, x.can] : List Int).drop 2) = dlV x := rfl
    repeat' first
      | with_reducible exact True.intro
      | simp -dsimp only [Vm.G, List.lookup, Nat.reduceAdd, Nat.reduceBEq, Int.reduceBNe, Int.reduceBEq, Nat.reduceLeDiff, q107, e1, e2]
      | refine call_one (S := tabSpec 76 2 4) rfl _ GaL.rfl ⟨rfl, ?_⟩
      | refine call_one (S := pairSpec) rfl _ GaL.rfl ⟨76, 2, 4, [id, i, x.node, x.orig, x.liq, x.can], by simp, by simp, hm, rfl, ?_⟩
      | refine bs_intro zr3 (by decide) (by decide) rfl rfl (by simp [solid, AV.cells]) ?_
      | refine tree_alt ?_ ?_
      | repeat' first | rfl | exact True.intro | refine And.intro ?_ ?_
  · rintro s h2 ⟨rfl, e6⟩
    simp -dsimp only [Vm.G, List.lookup, Nat.reduceAdd, Nat.reduceBEq, Int.reduceBNe, Int.reduceBEq, Nat.reduceLeDiff, q107, e6]
    exact hq
def rdcSpec : Vm.Spec := fun args h Q => ∃ d : Dc, d.ok ∧ args = [.agg (dcCells d)] ∧ Q (.agg [.sl 1 ((dcK d.id).map encB), .sl 1 ((dcV d).map encB)]) h
set_option maxRecDepth 20000 in
theorem does_recDc : Does Tryz.prog 108 rdcSpec := by
  refine does_of_awp (good_cons does_documents (good_cons does_pair good_nil)) Tryz.func108 rfl (by decide +kernel) (by decide +kernel) ?_
  rintro args h Q ⟨d, ⟨o1, o2, o3, o4, o5⟩, rfl, hq⟩
  refine ⟨by simp [Tryz.f108], ?_⟩
  rw [awpFunc_some (by rfl)]
  simp only [dcCells]
  simp -dsimp only [Vm.G, List.lookup, Nat.reduceAdd, Nat.reduceBEq, Int.reduceBNe, Int.reduceBEq, Nat.reduceLeDiff, q108]
  refine draw_cont [1] (.take 1 (.take 2 (.take 3 (.take 4 (.take 5 (.take 6 (.take 7 (.take 8 (.take 9 (.take 10 (.alt 0 (.alt 11 (.alt 12 (.alt 13 (.done) .stop) .stop) .stop) (.alt 11 (.alt 0 (.alt 12 (.alt 13 (.done) .stop) .stop) .stop) (.stop))))))))))))) (fun s h2 => h2 = h ∧ s 2 = .box [.sl 1 ((dcK d.id).map encB), .sl 1 ((dcV d).map encB)]) (by kernel_rfl) (by kernel_rfl) (by kernel_rfl) (by decide) ?_ ?_
  · have hm : ∀ m ∈ [d.id, d.kind, d.year, d.frm, d.lines], I64 m := fun m hm => by
      simp only [List.mem_cons, List.not_mem_nil, or_false] at hm
      rcases hm with rfl | rfl | rfl | rfl | rfl <;> assumption
    have e1 : keyOf 68 (([d.id, d.kind, d.year, d.frm, d.lines] : List Int).take 1) = dcK d.id := rfl
    have e2 : packOf (([d.id, d.kind, d.year, d.frm, d.lines] : List Int).drop 1) = dcV d := rfl
    repeat' first
      | with_reducible exact True.intro
      | simp -dsimp only [Vm.G, List.lookup, Nat.reduceAdd, Nat.reduceBEq, Int.reduceBNe, Int.reduceBEq, Nat.reduceLeDiff, q108, e1, e2]
      | refine call_one (S := tabSpec 68 1 4) rfl _ GaL.rfl ⟨rfl, ?_⟩
      | refine call_one (S := pairSpec) rfl _ GaL.rfl ⟨68, 1, 4, [d.id, d.kind, d.year, d.frm, d.lines], by simp, by simp, hm, rfl, ?_⟩
      | refine bs_intro zr3 (by decide) (by decide) rfl rfl (by simp [solid, AV.cells]) ?_
      | refine tree_alt ?_ ?_
      | repeat' first | rfl | exact True.intro | refine And.intro ?_ ?_
  · rintro s h2 ⟨rfl, e2⟩
    simp -dsimp only [Vm.G, List.lookup, Nat.reduceAdd, Nat.reduceBEq, Int.reduceBNe, Int.reduceBEq, Nat.reduceLeDiff, q108, e2]
    exact hq
def dsetSpec : Vm.Spec := fun args h Q => ∃ (V : VId) (f : Fun) (k v : List UInt8), args = [.agg [.ptr V.iv 0], .agg [.sl 1 (k.map encB), .sl 1 (v.map encB)]] ∧ rightKV k v = true ∧ isView h V f ∧ ∀ h', isView h' V (upd f k (some v)) → Same h h' [V.ic] → Q (.v (.int .i64 0)) h'
theorem does_dset : Does Tryz.prog 106 dsetSpec := by
  refine does_of_awp (good_cons does_vput good_nil) Tryz.func106 rfl (by decide +kernel) (by decide +kernel) ?_
  rintro args h Q ⟨V, f, k, v, rfl, hr, hV, hq⟩
  refine ⟨by simp [Tryz.f106], ?_⟩
  rw [awpFunc_some (by rfl)]
  simp -dsimp only [Vm.G, List.lookup, Nat.reduceAdd, Nat.reduceBEq, Int.reduceBNe, Int.reduceBEq, Nat.reduceLeDiff, q106]
  refine call_one (S := vputSpec) rfl _ GaL.rfl ⟨V, f, k, v, rfl, hV, fun _ h' g1 g2 => ?_, fun hc => by rw [hr] at hc; cases hc⟩
  simp -dsimp only [Vm.G, List.lookup, Nat.reduceAdd, Nat.reduceBEq, Int.reduceBNe, Int.reduceBEq, Nat.reduceLeDiff, q106]
  exact hq h' g1 g2
/-- A document's lines, put. -/
def putLines (id : Int) : Nat → List Dl → Fun → Fun
  | _, [], f => f
  | i, x :: r, f => putLines id (i + 1) r (upd f (dlK id i) (some (dlV x)))
def docsF (f : Fun) (id : Int) (d : Dc) (l : List Dl) : Fun := upd (putLines id 0 l (upd f (seqKey 2) (some (be 8 id)))) (dcK id) (some (dcV { d with id := id, lines := l.length }))
def docsPut (f : Fun) (d : Dc) (l : List Dl) : Fun × Int × Int :=
  if l.length = 0 ∨ 6 < l.length then (f, 0, 1)
  else if readOf f (seqKey 2) < 0 ∨ 4294967294 < readOf f (seqKey 2) then (f, 0, 9)
  else (docsF f (readOf f (seqKey 2) + 1) d l, readOf f (seqKey 2) + 1, 0)
def docsPutSpec : Vm.Spec := fun args h Q => ∃ (V : VId) (f : Fun) (d : Dc) (l : List Dl), d.ok ∧ (∀ x ∈ l, x.ok) ∧ args = [.ptr V.iv 0, .agg (dcCells d), .sl 4 (l.map dlAv)] ∧ isView h V f ∧
  ∀ h', isView h' V (docsPut f d l).1 → Same h h' [V.ic] → Q (.tup [.v (.int .i64 (docsPut f d l).2.1), .v (.int .i64 (docsPut f d l).2.2)]) h'
set_option maxRecDepth 20000 in
set_option maxHeartbeats 1000000 in
theorem does_docsPut : Does Tryz.prog 36 docsPutSpec := by
  refine does_of_awp (good_cons does_seqNext (good_cons does_recDl (good_cons does_dset (good_cons does_recDc good_nil)))) Tryz.func36 rfl (by decide +kernel) (by decide +kernel) ?_
  rintro args h Q ⟨V, f, d, l, hd, hx, rfl, hV, hq⟩
  refine ⟨by simp [Tryz.f36], ?_⟩
  rw [awpFunc_some (by rfl)]
  unfold docsPut at hq
  simp only [dcCells]
  simp -dsimp only [Vm.G, List.lookup, Nat.reduceAdd, Nat.reduceBEq, Int.reduceBNe, Int.reduceBEq, Nat.reduceLeDiff, q36]
  cases c0 : ((l.length : Int) == 0)
  · have d0 : ¬ l.length = 0 := by intro e; rw [e] at c0; simp at c0
    simp -dsimp only [Vm.G, List.lookup, Nat.reduceAdd, Nat.reduceBEq, Int.reduceBNe, Int.reduceBEq, Nat.reduceLeDiff, q36]
    cases c6 : decide ((l.length : Int) > 6)
    · have d6 : ¬ 6 < l.length := by have := of_decide_eq_false c6; omega
      have hr := readOf_range f (seqKey 2)
      simp only [if_neg (show ¬ (l.length = 0 ∨ 6 < l.length) by omega)] at hq
      simp -dsimp only [Vm.G, List.lookup, Nat.reduceAdd, Nat.reduceBEq, Int.reduceBNe, Int.reduceBEq, Nat.reduceLeDiff, q36]
      refine call_one (S := seqNextSpec) rfl _ GaL.rfl ⟨V, f, 2, rfl, hV, fun hr => ?_, fun hn h1 g1 g2 => ?_⟩
      · simp only [if_pos hr] at hq
        simp -dsimp only [Vm.G, List.lookup, Nat.reduceAdd, Nat.reduceBEq, Int.reduceBNe, Int.reduceBEq, Nat.reduceLeDiff, q36]
        exact hq h hV (.refl _ _)
      · simp only [if_neg hn] at hq
        unfold docsF at hq
        have hidr : I64 (readOf f (seqKey 2) + 1) := by unfold I64 at hr ⊢; omega
        generalize readOf f (seqKey 2) + 1 = id at hq g1 hidr ⊢
        generalize upd f (seqKey 2) (some (be 8 id)) = f1 at hq g1
        simp -dsimp only [Vm.G, List.lookup, Nat.reduceAdd, Nat.reduceBEq, Int.reduceBNe, Int.reduceBEq, Nat.reduceLeDiff, q36]
        refine awp_loop (fun m s h' => ∃ (i : Nat) (g : Fun) (s10 : AV), i + m = l.length ∧ isView h' V g ∧ Same h h' [V.ic] ∧ putLines id i (l.drop i) g = putLines id 0 l f1 ∧ (s10 = .box [.ptr V.iv 0] ∨ s10 = .eptr [.ptr V.iv 0]) ∧ s = mk [(2, .sl 4 (l.map dlAv)), (4, .box [.v (.int .i64 d.id), .v (.int .i64 d.kind), .v (.int .i64 d.year), .v (.int .i64 d.frm), .v (.int .i64 d.lines)]), (8, .v (.int .i64 id)), (10, s10), (33, .sl 4 (l.map dlAv)), (34, .v (.int .i64 l.length)), (35, .v (.int .i64 (i : Nat)))])
          l.length _ (le_mk _ ?_) ⟨0, f1, .box [.ptr V.iv 0], by omega, g1, g2, rfl, .inl rfl, rfl⟩ ?_
        · simp only [List.forall_mem_cons, List.not_mem_nil, false_imp_iff, implies_true, and_true]
          try simp -dsimp only [Vm.G, List.lookup, Nat.reduceAdd, Nat.reduceBEq, Int.reduceBNe, Int.reduceBEq, Nat.reduceLeDiff, q36]
          repeat' first | exact Fg.refl _ | exact Fg.nil _ _ _ (by decide) | refine And.intro ?_ ?_
        · clear g1 g2 hV
          rintro m s h' ⟨i, g, s10, hi, hV, hsm, hp, h10, rfl⟩
          simp -dsimp only [Vm.G, List.lookup, Nat.reduceAdd, Nat.reduceBEq, Int.reduceBNe, Int.reduceBEq, Nat.reduceLeDiff, q36]
          refine cond_intro (fun hcc => ?_) (fun hcc => ?_)
          · have hlt : i < l.length := by have := of_decide_eq_true hcc; omega
            have hw : IntKind.i64.wrap ((i : Int) + 1) = ((i + 1 : Nat) : Int) := by rw [wrap_i64 (by omega) (by omega)]; simp
            have hok := hx l[i] (List.getElem_mem hlt)
            rw [List.drop_eq_getElem_cons hlt] at hp
            simp -dsimp only [Vm.G, List.lookup, Nat.reduceAdd, Nat.reduceBEq, Int.reduceBNe, Int.reduceBEq, Nat.reduceLeDiff, q36]
            refine idx_map dlAv l i hlt ?_
            generalize l[i] = x at hok hp
            have hii : I64 (i : Int) := by unfold I64; omega
            simp only [dlAv, dlCells]
            simp -dsimp only [Vm.G, List.lookup, Nat.reduceAdd, Nat.reduceBEq, Int.reduceBNe, Int.reduceBEq, Nat.reduceLeDiff, q36, AV.cells]
            rcases h10 with rfl | rfl
            · refine draw_cont [10, 12] (.take 0 (.take 1 (.take 2 (.take 3 (.alt 4 (.alt 5 (.alt 6 (.done) .stop) .stop) .stop))))) (fun s h2 => isView h2 V (upd g (dlK id i) (some (dlV x))) ∧ Same h' h2 [V.ic] ∧ s 13 = .v (.int .i64 0) ∧ s 2 = .sl 4 (l.map dlAv) ∧ s 4 = .box [.v (.int .i64 d.id), .v (.int .i64 d.kind), .v (.int .i64 d.year), .v (.int .i64 d.frm), .v (.int .i64 d.lines)] ∧ s 8 = .v (.int .i64 id) ∧ s 10 = .eptr [.ptr V.iv 0] ∧ s 33 = .sl 4 (l.map dlAv) ∧ s 34 = .v (.int .i64 l.length) ∧ s 35 = .v (.int .i64 i)) (by kernel_rfl) (by kernel_rfl) (by kernel_rfl) (by decide) ?_ ?_
              · simp -dsimp only [Vm.G, List.lookup, Nat.reduceAdd, Nat.reduceBEq, Int.reduceBNe, Int.reduceBEq, Nat.reduceLeDiff, q36]
                refine call_one (S := rdlSpec) rfl _ GaL.rfl ⟨id, i, x, hidr, hii, hok, rfl, ?_⟩
                simp -dsimp only [Vm.G, List.lookup, Nat.reduceAdd, Nat.reduceBEq, Int.reduceBNe, Int.reduceBEq, Nat.reduceLeDiff, q36]
                refine call_one (S := dsetSpec) rfl _ GaL.rfl ⟨V, g, dlK id i, dlV x, rfl, right_dl id i x, hV, fun h2 g1 g2 => ?_⟩
                simp -dsimp only [Vm.G, List.lookup, Nat.reduceAdd, Nat.reduceBEq, Int.reduceBNe, Int.reduceBEq, Nat.reduceLeDiff, q36]
                refine ⟨g1, g2, ?_⟩
                repeat' first | rfl | exact True.intro | refine And.intro ?_ ?_
              · rintro s h2 ⟨g1, g2, e13, e2, e4, e8, e10, e33, e34, e35⟩
                simp -dsimp only [Vm.G, List.lookup, Nat.reduceAdd, Nat.reduceBEq, Int.reduceBNe, Int.reduceBEq, Nat.reduceLeDiff, q36, e13, e2, e4, e8, e10, e33, e34, e35]
                refine kept_intro ⟨l.length - (i + 1), by omega, _, le_mk [(2, .sl 4 (l.map dlAv)), (4, .box [.v (.int .i64 d.id), .v (.int .i64 d.kind), .v (.int .i64 d.year), .v (.int .i64 d.frm), .v (.int .i64 d.lines)]), (8, .v (.int .i64 id)), (10, .eptr [.ptr V.iv 0]), (33, .sl 4 (l.map dlAv)), (34, .v (.int .i64 l.length)), (35, .v (.int .i64 (i + 1 : Nat)))] ?_, i + 1, _, _, by omega, g1, hsm.trans g2, hp, .inr rfl, rfl⟩
                simp only [List.forall_mem_cons, List.not_mem_nil, false_imp_iff, implies_true, and_true, hw, e2, e4, e8, e10, e33, e34, e35]
                try simp -dsimp only [Vm.G, List.lookup, Nat.reduceAdd, Nat.reduceBEq, Int.reduceBNe, Int.reduceBEq, Nat.reduceLeDiff, q36, hw, e2, e4, e8, e10, e33, e34, e35]
                repeat' first | exact Fg.refl _ | exact Fg.nil _ _ _ (by decide) | refine And.intro ?_ ?_
            · refine draw_cont [12] (.take 0 (.take 1 (.take 2 (.take 3 (.alt 4 (.alt 5 (.alt 6 (.done) .stop) .stop) .stop))))) (fun s h2 => isView h2 V (upd g (dlK id i) (some (dlV x))) ∧ Same h' h2 [V.ic] ∧ s 13 = .v (.int .i64 0) ∧ s 2 = .sl 4 (l.map dlAv) ∧ s 4 = .box [.v (.int .i64 d.id), .v (.int .i64 d.kind), .v (.int .i64 d.year), .v (.int .i64 d.frm), .v (.int .i64 d.lines)] ∧ s 8 = .v (.int .i64 id) ∧ s 10 = .eptr [.ptr V.iv 0] ∧ s 33 = .sl 4 (l.map dlAv) ∧ s 34 = .v (.int .i64 l.length) ∧ s 35 = .v (.int .i64 i)) (by kernel_rfl) (by kernel_rfl) (by kernel_rfl) (by decide) ?_ ?_
              · simp -dsimp only [Vm.G, List.lookup, Nat.reduceAdd, Nat.reduceBEq, Int.reduceBNe, Int.reduceBEq, Nat.reduceLeDiff, q36]
                refine call_one (S := rdlSpec) rfl _ GaL.rfl ⟨id, i, x, hidr, hii, hok, rfl, ?_⟩
                simp -dsimp only [Vm.G, List.lookup, Nat.reduceAdd, Nat.reduceBEq, Int.reduceBNe, Int.reduceBEq, Nat.reduceLeDiff, q36]
                refine call_one (S := dsetSpec) rfl _ GaL.rfl ⟨V, g, dlK id i, dlV x, rfl, right_dl id i x, hV, fun h2 g1 g2 => ?_⟩
                simp -dsimp only [Vm.G, List.lookup, Nat.reduceAdd, Nat.reduceBEq, Int.reduceBNe, Int.reduceBEq, Nat.reduceLeDiff, q36]
                refine ⟨g1, g2, ?_⟩
                repeat' first | rfl | exact True.intro | refine And.intro ?_ ?_
              · rintro s h2 ⟨g1, g2, e13, e2, e4, e8, e10, e33, e34, e35⟩
                simp -dsimp only [Vm.G, List.lookup, Nat.reduceAdd, Nat.reduceBEq, Int.reduceBNe, Int.reduceBEq, Nat.reduceLeDiff, q36, e13, e2, e4, e8, e10, e33, e34, e35]
                refine kept_intro ⟨l.length - (i + 1), by omega, _, le_mk [(2, .sl 4 (l.map dlAv)), (4, .box [.v (.int .i64 d.id), .v (.int .i64 d.kind), .v (.int .i64 d.year), .v (.int .i64 d.frm), .v (.int .i64 d.lines)]), (8, .v (.int .i64 id)), (10, .eptr [.ptr V.iv 0]), (33, .sl 4 (l.map dlAv)), (34, .v (.int .i64 l.length)), (35, .v (.int .i64 (i + 1 : Nat)))] ?_, i + 1, _, _, by omega, g1, hsm.trans g2, hp, .inr rfl, rfl⟩
                simp only [List.forall_mem_cons, List.not_mem_nil, false_imp_iff, implies_true, and_true, hw, e2, e4, e8, e10, e33, e34, e35]
                try simp -dsimp only [Vm.G, List.lookup, Nat.reduceAdd, Nat.reduceBEq, Int.reduceBNe, Int.reduceBEq, Nat.reduceLeDiff, q36, hw, e2, e4, e8, e10, e33, e34, e35]
                repeat' first | exact Fg.refl _ | exact Fg.nil _ _ _ (by decide) | refine And.intro ?_ ?_
          · have hge : ¬ i < l.length := by have := of_decide_eq_false hcc; omega
            rw [List.drop_of_length_le (by omega)] at hp
            have hp : g = putLines id 0 l f1 := hp
            rw [← hp] at hq
            obtain ⟨o1, o2, o3, o4, o5⟩ := hd
            have hdok : ({ d with id := id, lines := (l.length : Int) } : Dc).ok := ⟨hidr, o2, o3, o4, by unfold I64; show -9223372036854775808 ≤ (l.length : Int) ∧ (l.length : Int) ≤ _; omega⟩
            simp -dsimp only [Vm.G, List.lookup, Nat.reduceAdd, Nat.reduceBEq, Int.reduceBNe, Int.reduceBEq, Nat.reduceLeDiff, q36]
            have fin : ∀ {s : Slots}, True := fun {_} => trivial
            rcases h10 with rfl | rfl
            · refine draw_cont [10, 4] (.take 0 (.take 1 (.alt 2 (.alt 3 (.alt 4 (.done) .stop) .stop) .stop))) (fun s h2 => isView h2 V (upd g (dcK id) (some (dcV { d with id := id, lines := l.length }))) ∧ Same h' h2 [V.ic] ∧ s 14 = .v (.int .i64 0) ∧ s 8 = .v (.int .i64 id)) (by kernel_rfl) (by kernel_rfl) (by kernel_rfl) (by decide) ?_ ?_
              · simp -dsimp only [Vm.G, List.lookup, Nat.reduceAdd, Nat.reduceBEq, Int.reduceBNe, Int.reduceBEq, Nat.reduceLeDiff, q36]
                refine call_one (S := rdcSpec) rfl _ GaL.rfl ⟨{ d with id := id, lines := l.length }, hdok, rfl, ?_⟩
                simp -dsimp only [Vm.G, List.lookup, Nat.reduceAdd, Nat.reduceBEq, Int.reduceBNe, Int.reduceBEq, Nat.reduceLeDiff, q36]
                refine call_one (S := dsetSpec) rfl _ GaL.rfl ⟨V, g, dcK id, dcV { d with id := id, lines := l.length }, rfl, right_dc id _, hV, fun h2 g1 g2 => ?_⟩
                simp -dsimp only [Vm.G, List.lookup, Nat.reduceAdd, Nat.reduceBEq, Int.reduceBNe, Int.reduceBEq, Nat.reduceLeDiff, q36]
                refine ⟨g1, g2, ?_⟩
                repeat' first | rfl | exact True.intro | refine And.intro ?_ ?_
              · rintro s h2 ⟨g1, g2, e14, e8⟩
                simp -dsimp only [Vm.G, List.lookup, Nat.reduceAdd, Nat.reduceBEq, Int.reduceBNe, Int.reduceBEq, Nat.reduceLeDiff, q36, e14, e8]
                exact hq h2 g1 (hsm.trans g2)
            · refine draw_cont [4] (.take 0 (.take 1 (.alt 2 (.alt 3 (.alt 4 (.done) .stop) .stop) .stop))) (fun s h2 => isView h2 V (upd g (dcK id) (some (dcV { d with id := id, lines := l.length }))) ∧ Same h' h2 [V.ic] ∧ s 14 = .v (.int .i64 0) ∧ s 8 = .v (.int .i64 id)) (by kernel_rfl) (by kernel_rfl) (by kernel_rfl) (by decide) ?_ ?_
              · simp -dsimp only [Vm.G, List.lookup, Nat.reduceAdd, Nat.reduceBEq, Int.reduceBNe, Int.reduceBEq, Nat.reduceLeDiff, q36]
                refine call_one (S := rdcSpec) rfl _ GaL.rfl ⟨{ d with id := id, lines := l.length }, hdok, rfl, ?_⟩
                simp -dsimp only [Vm.G, List.lookup, Nat.reduceAdd, Nat.reduceBEq, Int.reduceBNe, Int.reduceBEq, Nat.reduceLeDiff, q36]
                refine call_one (S := dsetSpec) rfl _ GaL.rfl ⟨V, g, dcK id, dcV { d with id := id, lines := l.length }, rfl, right_dc id _, hV, fun h2 g1 g2 => ?_⟩
                simp -dsimp only [Vm.G, List.lookup, Nat.reduceAdd, Nat.reduceBEq, Int.reduceBNe, Int.reduceBEq, Nat.reduceLeDiff, q36]
                refine ⟨g1, g2, ?_⟩
                repeat' first | rfl | exact True.intro | refine And.intro ?_ ?_
              · rintro s h2 ⟨g1, g2, e14, e8⟩
                simp -dsimp only [Vm.G, List.lookup, Nat.reduceAdd, Nat.reduceBEq, Int.reduceBNe, Int.reduceBEq, Nat.reduceLeDiff, q36, e14, e8]
                exact hq h2 g1 (hsm.trans g2)
    · have d6 : 6 < l.length := by have := of_decide_eq_true c6; omega
      simp only [if_pos (show l.length = 0 ∨ 6 < l.length from .inr d6)] at hq
      simp -dsimp only [Vm.G, List.lookup, Nat.reduceAdd, Nat.reduceBEq, Int.reduceBNe, Int.reduceBEq, Nat.reduceLeDiff, q36]
      exact hq h hV (.refl _ _)
  · have d0 : l.length = 0 := by
      have : (l.length : Int) = 0 := by simpa using c0
      omega
    simp only [if_pos (show l.length = 0 ∨ 6 < l.length from .inl d0)] at hq
    simp -dsimp only [Vm.G, List.lookup, Nat.reduceAdd, Nat.reduceBEq, Int.reduceBNe, Int.reduceBEq, Nat.reduceLeDiff, q36]
    exact hq h hV (.refl _ _)
/-- Lines' nodes, charged. -/
def chargeL (year : Int) : List Dl → Fun → Bool → Fun × Bool × Int
  | [], f, w => (f, w, 0)
  | x :: r, f, w => if (chargeOf f year x.node ⟨x.orig, 0, 0⟩).2.2 ≠ 0 then ((chargeOf f year x.node ⟨x.orig, 0, 0⟩).1, false, (chargeOf f year x.node ⟨x.orig, 0, 0⟩).2.2)
    else chargeL year r (chargeOf f year x.node ⟨x.orig, 0, 0⟩).1 (w || (chargeOf f year x.node ⟨x.orig, 0, 0⟩).2.1)
attribute [local irreducible] chargeOf chargeL docsPut
def Ln.ok (x : Ln) : Prop := I64 x.fund ∧ I64 x.obj ∧ I64 x.node ∧ I64 x.amt
end Go.Proofs.Lx
/- Documents: docs.Get, Set, All, Last, Open, Right. -/
set_option linter.unusedSimpArgs false
set_option linter.unusedVariables false
namespace Go.Proofs.Lx
open Go.Vm
attribute [local irreducible] awpArr awpBin awpMake awpAppend awpCvX awpStrOf awpBinX awpSlice awpBS awpStore awpAlloc awpCopy awpIndex awpDraw awpIdxX awpFa awpField awpLookup awpUpdate awpDelete awpClear awpRange awpNext awpEntry awpBuild awpClearS awpIdxL awpTree appB awpIdxO eltA treeA
def Dl.zero : Dl := ⟨0, 0, 0, 0⟩
def Dc.zero : Dc := ⟨0, 0, 0, 0, 0⟩
/-- A record's document, its line. -/
def dcOf (l : List Int) : Dc := ⟨l.getD 0 0, l.getD 1 0, l.getD 2 0, l.getD 3 0, l.getD 4 0⟩
def dlOf (l : List Int) : Dl := ⟨l.getD 2 0, l.getD 3 0, l.getD 4 0, l.getD 5 0⟩
def docOf (key val : List UInt8) : Option Dc := (numsPair 68 1 4 key val).map dcOf
def lineOf (key val : List UInt8) : Option Dl := (numsPair 76 2 4 key val).map dlOf
def docOfSpec : Vm.Spec := fun args h Q => ∃ key val : List UInt8, key.length ≤ 4611686018427387904 ∧ val.length ≤ 4611686018427387904 ∧ args = [.agg [.sl 1 (key.map encB), .sl 1 (val.map encB)]] ∧
  (∀ d, docOf key val = some d → Q (.tup [.agg (dcCells d), .v (.bool true)]) h) ∧ (docOf key val = none → Q (.tup [.agg (dcCells .zero), .v (.bool false)]) h)
set_option maxRecDepth 20000 in
set_option maxHeartbeats 1000000 in
theorem does_docOf : Does Tryz.prog 112 docOfSpec := by
  refine does_of_awp (good_cons does_documents (good_cons does_nums good_nil)) Tryz.func112 rfl (by decide +kernel) (by decide +kernel) ?_
  rintro args h Q ⟨key, val, hk, hv, rfl, hq1, hq2⟩
  refine ⟨by simp [Tryz.f112], ?_⟩
  rw [awpFunc_some (by rfl)]
  unfold docOf at hq1 hq2
  simp only [dcCells, Dc.zero] at hq2
  simp -dsimp only [Vm.G, List.lookup, Nat.reduceAdd, Nat.reduceBEq, Int.reduceBNe, Int.reduceBEq, Nat.reduceLeDiff, q112]
  refine draw_cont [1] (.take 1 (.alt 0 (.alt 2 (.take 3 (.take 4 (.take 5 (.alt 6 (.alt 7 (.done) .stop) .stop)))) .stop) .stop)) (fun s h' => h' = h ∧ s 2 = .box (dcCells .zero) ∧ ((∃ l, numsPair 68 1 4 key val = some l ∧ s 4 = .own true 3 1 (l.map encI) ∧ s 5 = .v (.bool true)) ∨ (numsPair 68 1 4 key val = none ∧ s 5 = .v (.bool false)))) (by kernel_rfl) (by kernel_rfl) (by kernel_rfl) (by decide) ?_ ?_
  · simp -dsimp only [Vm.G, List.lookup, Nat.reduceAdd, Nat.reduceBEq, Int.reduceBNe, Int.reduceBEq, Nat.reduceLeDiff, q112]
    refine call_one (S := tabSpec 68 1 4) rfl _ GaL.rfl ⟨rfl, ?_⟩
    simp -dsimp only [Vm.G, List.lookup, Nat.reduceAdd, Nat.reduceBEq, Int.reduceBNe, Int.reduceBEq, Nat.reduceLeDiff, q112]
    refine call_one (S := numsSpec) rfl _ GaL.rfl ⟨68, 1, 4, key, val, by decide, hk, hv, rfl, fun l hl => ?_, fun hl => ?_, fun hl l => ?_⟩
    · simp -dsimp only [Vm.G, List.lookup, Nat.reduceAdd, Nat.reduceBEq, Int.reduceBNe, Int.reduceBEq, Nat.reduceLeDiff, q112]
      exact ⟨rfl, .inl ⟨l, hl, rfl, trivial⟩⟩
    · simp -dsimp only [Vm.G, List.lookup, Nat.reduceAdd, Nat.reduceBEq, Int.reduceBNe, Int.reduceBEq, Nat.reduceLeDiff, q112]
      exact ⟨rfl, .inr ⟨hl, trivial⟩⟩
    · simp -dsimp only [Vm.G, List.lookup, Nat.reduceAdd, Nat.reduceBEq, Int.reduceBNe, Int.reduceBEq, Nat.reduceLeDiff, q112]
      exact ⟨rfl, .inr ⟨hl, trivial⟩⟩
  · rintro s h' ⟨rfl, hs2, ⟨l, hl, hs4, hs5⟩ | ⟨hl, hs5⟩⟩
    · rw [hl] at hq1
      have hlen := numsPair_length hl
      have hq1' := hq1 (dcOf l) rfl
      clear hq1 hq2 hl
      simp only [dcCells, Dc.zero] at hs2
      match l, hlen with
      | [a0, a1, a2, a3, a4], _ =>
      simp -dsimp only [Vm.G, List.lookup, Nat.reduceAdd, Nat.reduceBEq, Int.reduceBNe, Int.reduceBEq, Nat.reduceLeDiff, q112, hs5]
      refine draw_cont [4] (.take 0 (.take 1 (.take 2 (.take 3 (.take 4 (.take 5 (.take 6 (.take 7 (.take 8 (.take 9 (.take 10 (.take 11 (.take 12 (.take 13 (.take 14 (.alt 15 (.alt 16 (.alt 17 (.done) .stop) .stop) .stop)))))))))))))))) (fun s h'' => h'' = h' ∧ s 2 = .box [.v (.int .i64 a0), .v (.int .i64 a1), .v (.int .i64 a2), .v (.int .i64 a3), .v (.int .i64 a4)] ∧ s 3 = .v (.bool true)) (by kernel_rfl) (by kernel_rfl) (by kernel_rfl) (by decide) ?_ ?_
      · simp -dsimp only [Vm.G, List.lookup, Nat.reduceAdd, Nat.reduceBEq, Int.reduceBNe, Int.reduceBEq, Nat.reduceLeDiff, q112, idx_lit, idxE_some, Int.reduceToNat, Int.reduceLE, decide_true, eq_self, hs2, hs4, hs5, encI]
        repeat' first | rfl | exact True.intro | refine And.intro ?_ ?_
      · rintro s2 h2 ⟨rfl, g2, g3⟩
        simp -dsimp only [Vm.G, List.lookup, Nat.reduceAdd, Nat.reduceBEq, Int.reduceBNe, Int.reduceBEq, Nat.reduceLeDiff, q112, g2, g3]
        exact hq1'
    · rw [hl] at hq2
      simp only [dcCells, Dc.zero] at hs2
      simp -dsimp only [Vm.G, List.lookup, Nat.reduceAdd, Nat.reduceBEq, Int.reduceBNe, Int.reduceBEq, Nat.reduceLeDiff, q112, hs2, hs5]
      exact hq2 rfl
def lineOfSpec : Vm.Spec := fun args h Q => ∃ key val : List UInt8, key.length ≤ 4611686018427387904 ∧ val.length ≤ 4611686018427387904 ∧ args = [.agg [.sl 1 (key.map encB), .sl 1 (val.map encB)]] ∧
  (∀ d, lineOf key val = some d → Q (.tup [.agg (dlCells d), .v (.bool true)]) h) ∧ (lineOf key val = none → Q (.tup [.agg (dlCells .zero), .v (.bool false)]) h)
set_option maxRecDepth 20000 in
set_option maxHeartbeats 1000000 in
theorem does_lineOf : Does Tryz.prog 185 lineOfSpec := by
  refine does_of_awp (good_cons does_docLines (good_cons does_nums good_nil)) Tryz.func185 rfl (by decide +kernel) (by decide +kernel) ?_
  rintro args h Q ⟨key, val, hk, hv, rfl, hq1, hq2⟩
  refine ⟨by simp [Tryz.f185], ?_⟩
  rw [awpFunc_some (by rfl)]
  unfold lineOf at hq1 hq2
  simp only [dlCells, Dl.zero] at hq2
  simp -dsimp only [Vm.G, List.lookup, Nat.reduceAdd, Nat.reduceBEq, Int.reduceBNe, Int.reduceBEq, Nat.reduceLeDiff, q185]
  refine draw_cont [1] (.take 1 (.alt 0 (.alt 2 (.take 3 (.take 4 (.take 5 (.alt 6 (.alt 7 (.done) .stop) .stop)))) .stop) .stop)) (fun s h' => h' = h ∧ s 2 = .box (dlCells .zero) ∧ ((∃ l, numsPair 76 2 4 key val = some l ∧ s 4 = .own true 3 1 (l.map encI) ∧ s 5 = .v (.bool true)) ∨ (numsPair 76 2 4 key val = none ∧ s 5 = .v (.bool false)))) (by kernel_rfl) (by kernel_rfl) (by kernel_rfl) (by decide) ?_ ?_
  · simp -dsimp only [Vm.G, List.lookup, Nat.reduceAdd, Nat.reduceBEq, Int.reduceBNe, Int.reduceBEq, Nat.reduceLeDiff, q185]
    refine call_one (S := tabSpec 76 2 4) rfl _ GaL.rfl ⟨rfl, ?_⟩
    simp -dsimp only [Vm.G, List.lookup, Nat.reduceAdd, Nat.reduceBEq, Int.reduceBNe, Int.reduceBEq, Nat.reduceLeDiff, q185]
    refine call_one (S := numsSpec) rfl _ GaL.rfl ⟨76, 2, 4, key, val, by decide, hk, hv, rfl, fun l hl => ?_, fun hl => ?_, fun hl l => ?_⟩
    · simp -dsimp only [Vm.G, List.lookup, Nat.reduceAdd, Nat.reduceBEq, Int.reduceBNe, Int.reduceBEq, Nat.reduceLeDiff, q185]
      exact ⟨rfl, .inl ⟨l, hl, rfl, trivial⟩⟩
    · simp -dsimp only [Vm.G, List.lookup, Nat.reduceAdd, Nat.reduceBEq, Int.reduceBNe, Int.reduceBEq, Nat.reduceLeDiff, q185]
      exact ⟨rfl, .inr ⟨hl, trivial⟩⟩
    · simp -dsimp only [Vm.G, List.lookup, Nat.reduceAdd, Nat.reduceBEq, Int.reduceBNe, Int.reduceBEq, Nat.reduceLeDiff, q185]
      exact ⟨rfl, .inr ⟨hl, trivial⟩⟩
  · rintro s h' ⟨rfl, hs2, ⟨l, hl, hs4, hs5⟩ | ⟨hl, hs5⟩⟩
    · rw [hl] at hq1
      have hlen := numsPair_length hl
      have hq1' := hq1 (dlOf l) rfl
      clear hq1 hq2 hl
      simp only [dlCells, Dl.zero] at hs2
      match l, hlen with
      | [a0, a1, a2, a3, a4, a5], _ =>
      simp -dsimp only [Vm.G, List.lookup, Nat.reduceAdd, Nat.reduceBEq, Int.reduceBNe, Int.reduceBEq, Nat.reduceLeDiff, q185, hs5]
      refine draw_cont [4] (.take 0 (.take 1 (.take 2 (.take 3 (.take 4 (.take 5 (.take 6 (.take 7 (.take 8 (.take 9 (.take 10 (.take 11 (.alt 12 (.alt 13 (.alt 14 (.done) .stop) .stop) .stop))))))))))))) (fun s h'' => h'' = h' ∧ s 2 = .box [.v (.int .i64 a2), .v (.int .i64 a3), .v (.int .i64 a4), .v (.int .i64 a5)] ∧ s 3 = .v (.bool true)) (by kernel_rfl) (by kernel_rfl) (by kernel_rfl) (by decide) ?_ ?_
      · simp -dsimp only [Vm.G, List.lookup, Nat.reduceAdd, Nat.reduceBEq, Int.reduceBNe, Int.reduceBEq, Nat.reduceLeDiff, q185, idx_lit, idxE_some, Int.reduceToNat, Int.reduceLE, decide_true, eq_self, hs2, hs4, hs5, encI]
        repeat' first | rfl | exact True.intro | refine And.intro ?_ ?_
      · rintro s2 h2 ⟨rfl, g2, g3⟩
        simp -dsimp only [Vm.G, List.lookup, Nat.reduceAdd, Nat.reduceBEq, Int.reduceBNe, Int.reduceBEq, Nat.reduceLeDiff, q185, g2, g3]
        exact hq1'
    · rw [hl] at hq2
      simp only [dlCells, Dl.zero] at hs2
      simp -dsimp only [Vm.G, List.lookup, Nat.reduceAdd, Nat.reduceBEq, Int.reduceBNe, Int.reduceBEq, Nat.reduceLeDiff, q185, hs2, hs5]
      exact hq2 rfl
def fetchSpec : Vm.Spec := fun args h Q => ∃ (V : VId) (f : Fun) (tag : UInt8) (l : List Int), l.length ≤ 15 ∧ args = [.agg [.ptr V.iv 0], .v (.int .u8 tag.toNat), .sl 1 (l.map encI)] ∧ isView h V f ∧
  (∀ v, f (keyOf tag l) = some v → Q (.tup [.agg [.sl 1 ((keyOf tag l).map encB), .sl 1 (v.map encB)], .v (.bool true)]) h) ∧ (f (keyOf tag l) = none → Q (.tup [.agg [.sl 1 ((keyOf tag l).map encB), .sl 1 []], .v (.bool false)]) h)
theorem does_fetch : Does Tryz.prog 184 fetchSpec := by
  refine does_of_awp (good_cons does_key (good_cons does_vgetW good_nil)) Tryz.func184 rfl (by decide +kernel) (by decide +kernel) ?_
  rintro args h Q ⟨V, f, tag, l, hl, rfl, hV, hq1, hq2⟩
  refine ⟨by simp [Tryz.f184], ?_⟩
  rw [awpFunc_some (by rfl)]
  simp -dsimp only [Vm.G, List.lookup, Nat.reduceAdd, Nat.reduceBEq, Int.reduceBNe, Int.reduceBEq, Nat.reduceLeDiff, q184]
  refine call_one (S := keySpec) rfl _ GaL.rfl ⟨tag, l, by omega, rfl, ?_⟩
  simp -dsimp only [Vm.G, List.lookup, Nat.reduceAdd, Nat.reduceBEq, Int.reduceBNe, Int.reduceBEq, Nat.reduceLeDiff, q184]
  refine call_one (S := vgetWSpec) rfl _ GaL.rfl ⟨V, f, keyOf tag l, rfl, hV, fun v hf => ?_, fun hf => ?_⟩
  · simp -dsimp only [Vm.G, List.lookup, Nat.reduceAdd, Nat.reduceBEq, Int.reduceBNe, Int.reduceBEq, Nat.reduceLeDiff, q184]
    exact hq1 v hf
  · simp -dsimp only [Vm.G, List.lookup, Nat.reduceAdd, Nat.reduceBEq, Int.reduceBNe, Int.reduceBEq, Nat.reduceLeDiff, q184]
    exact hq2 hf
def headOk (id : Int) (d : Dc) : Bool := (d.id == id) && (decide (d.lines ≥ 1) && decide (d.lines ≤ 6))
/-- A document's head, a line of it. -/
def docHead (f : Fun) (id : Int) : Option Dc := (f (dcK id)).bind fun v => (docOf (dcK id) v).bind fun d => if headOk id d then some d else none
def lineAt (f : Fun) (id i : Int) : Option Dl := (f (dlK id i)).bind fun v => lineOf (dlK id i) v
def docSpec : Vm.Spec := fun args h Q => ∃ (V : VId) (f : Fun) (id : Int), args = [.agg [.ptr V.iv 0], .v (.int .i64 id)] ∧ isView h V f ∧
  (∀ d, docHead f id = some d → Q (.tup [.agg (dcCells d), .v (.bool true)]) h) ∧ (docHead f id = none → ∀ d : Dc, Q (.tup [.agg (dcCells d), .v (.bool false)]) h)
set_option maxRecDepth 20000 in
set_option maxHeartbeats 1000000 in
theorem does_doc : Does Tryz.prog 109 docSpec := by
  refine does_of_awp (good_cons does_fetch (good_cons does_docOf good_nil)) Tryz.func109 rfl (by decide +kernel) (by decide +kernel) ?_
  rintro args h Q ⟨V, f, id, rfl, hV, hq1, hq2⟩
  refine ⟨by simp [Tryz.f109], ?_⟩
  rw [awpFunc_some (by rfl)]
  have hk := dcK_length id
  unfold docHead at hq1 hq2
  simp -dsimp only [Vm.G, List.lookup, Nat.reduceAdd, Nat.reduceBEq, Int.reduceBNe, Int.reduceBEq, Nat.reduceLeDiff, q109]
  refine bs_intro zr3 (by decide) (by decide) rfl rfl (by simp [solid, AV.cells]) ?_
  simp -dsimp only [Vm.G, List.lookup, Nat.reduceAdd, Nat.reduceBEq, Int.reduceBNe, Int.reduceBEq, Nat.reduceLeDiff, q109]
  refine call_one (S := fetchSpec) rfl _ GaL.rfl ⟨V, f, 68, [id], by simp, rfl, hV, fun v hf => ?_, fun hf => ?_⟩
  · have hvl := hV.len _ _ hf
    have hf : f (dcK id) = some v := hf
    rw [hf] at hq1 hq2
    simp only [Option.bind_some] at hq1 hq2
    have ek : keyOf 68 [id] = dcK id := rfl
    simp -dsimp only [Vm.G, List.lookup, Nat.reduceAdd, Nat.reduceBEq, Int.reduceBNe, Int.reduceBEq, Nat.reduceLeDiff, q109, ek]
    generalize dcK id = key at hk hq1 hq2
    refine call_one (S := docOfSpec) rfl _ GaL.rfl ⟨key, v, by omega, by omega, rfl, fun d hd => ?_, fun hd => ?_⟩
    · rw [hd] at hq1 hq2
      simp only [Option.bind_some] at hq1 hq2
      simp only [dcCells] at hq1 hq2 ⊢
      simp -dsimp only [Vm.G, List.lookup, Nat.reduceAdd, Nat.reduceBEq, Int.reduceBNe, Int.reduceBEq, Nat.reduceLeDiff, q109]
      refine draw_cont [8] (.take 0 (.take 1 (.take 2 (.take 3 (.take 5 (.alt 4 (.take 6 (.take 7 (.take 8 (.take 9 (.alt 10 (.take 11 (.take 12 (.take 13 (.take 14 (.alt 15 (.take 16 (.take 17 (.alt 18 (.alt 19 (.done) .stop) .stop))) (.alt 18 (.alt 15 (.take 16 (.take 17 (.alt 19 (.done) .stop))) .stop) (.stop))))))) .stop))))) .stop)))))) (fun s h2 => h2 = h ∧ s 4 = .box [.v (.int .i64 d.id), .v (.int .i64 d.kind), .v (.int .i64 d.year), .v (.int .i64 d.frm), .v (.int .i64 d.lines)] ∧ s 5 = .v (.bool (headOk id d))) (by kernel_rfl) (by kernel_rfl) (by kernel_rfl) (by decide) ?_ ?_
      · clear hq1 hq2
        unfold headOk
        have h1 := Bool.eq_false_or_eq_true (d.id == id)
        rcases h1 with c1 | c1
        · have h2 := Bool.eq_false_or_eq_true (decide (d.lines ≥ 1))
          rcases h2 with c2 | c2
          · repeat' first
              | with_reducible exact True.intro
              | simp -dsimp only [Vm.G, List.lookup, Nat.reduceAdd, Nat.reduceBEq, Int.reduceBNe, Int.reduceBEq, Nat.reduceLeDiff, q109, c1, c2, Bool.true_and]
              | refine tree_alt ?_ ?_
              | repeat' first | rfl | exact True.intro | refine And.intro ?_ ?_
          · repeat' first
              | with_reducible exact True.intro
              | simp -dsimp only [Vm.G, List.lookup, Nat.reduceAdd, Nat.reduceBEq, Int.reduceBNe, Int.reduceBEq, Nat.reduceLeDiff, q109, c1, c2, Bool.true_and, Bool.false_and]
              | refine tree_alt ?_ ?_
              | repeat' first | rfl | exact True.intro | refine And.intro ?_ ?_
        · repeat' first
            | with_reducible exact True.intro
            | simp -dsimp only [Vm.G, List.lookup, Nat.reduceAdd, Nat.reduceBEq, Int.reduceBNe, Int.reduceBEq, Nat.reduceLeDiff, q109, c1, Bool.false_and]
            | refine tree_alt ?_ ?_
            | repeat' first | rfl | exact True.intro | refine And.intro ?_ ?_
      · rintro s h2 ⟨rfl, e4, e5⟩
        have hd2 := Bool.eq_false_or_eq_true (headOk id d)
        rcases hd2 with c | c
        · rw [c] at e5
          simp -dsimp only [Vm.G, List.lookup, Nat.reduceAdd, Nat.reduceBEq, Int.reduceBNe, Int.reduceBEq, Nat.reduceLeDiff, q109, e4, e5]
          exact hq1 d (if_pos c)
        · rw [c] at e5
          simp -dsimp only [Vm.G, List.lookup, Nat.reduceAdd, Nat.reduceBEq, Int.reduceBNe, Int.reduceBEq, Nat.reduceLeDiff, q109, e4, e5]
          exact hq2 (if_neg (by rw [c]; decide)) d
    · rw [hd] at hq2
      have hq := hq2 rfl .zero
      simp only [dcCells, Dc.zero] at hq ⊢
      simp -dsimp only [Vm.G, List.lookup, Nat.reduceAdd, Nat.reduceBEq, Int.reduceBNe, Int.reduceBEq, Nat.reduceLeDiff, q109]
      refine draw_cont [8] (.take 0 (.take 1 (.take 2 (.take 3 (.take 5 (.alt 4 (.take 6 (.take 7 (.take 8 (.take 9 (.alt 10 (.take 11 (.take 12 (.take 13 (.take 14 (.alt 15 (.take 16 (.take 17 (.alt 18 (.alt 19 (.done) .stop) .stop))) (.alt 18 (.alt 15 (.take 16 (.take 17 (.alt 19 (.done) .stop))) .stop) (.stop))))))) .stop))))) .stop)))))) (fun s h2 => h2 = h ∧ s 4 = .box [.v (.int .i64 0), .v (.int .i64 0), .v (.int .i64 0), .v (.int .i64 0), .v (.int .i64 0)] ∧ s 5 = .v (.bool false)) (by kernel_rfl) (by kernel_rfl) (by kernel_rfl) (by decide) ?_ ?_
      · clear hq1 hq2 hq
        repeat' first
          | with_reducible exact True.intro
          | simp -dsimp only [Vm.G, List.lookup, Nat.reduceAdd, Nat.reduceBEq, Int.reduceBNe, Int.reduceBEq, Nat.reduceLeDiff, q109]
          | refine tree_alt ?_ ?_
          | repeat' first | rfl | exact True.intro | refine And.intro ?_ ?_
      · rintro s h2 ⟨rfl, e4, e5⟩
        simp -dsimp only [Vm.G, List.lookup, Nat.reduceAdd, Nat.reduceBEq, Int.reduceBNe, Int.reduceBEq, Nat.reduceLeDiff, q109, e4, e5]
        exact hq
  · have hf : f (dcK id) = none := hf
    rw [hf] at hq2
    have hq := hq2 rfl .zero
    simp only [dcCells, Dc.zero] at hq
    simp -dsimp only [Vm.G, List.lookup, Nat.reduceAdd, Nat.reduceBEq, Int.reduceBNe, Int.reduceBEq, Nat.reduceLeDiff, q109]
    exact hq
def dlineSpec : Vm.Spec := fun args h Q => ∃ (V : VId) (f : Fun) (id i : Int), args = [.agg [.ptr V.iv 0], .v (.int .i64 id), .v (.int .i64 i)] ∧ isView h V f ∧
  (∀ d, lineAt f id i = some d → Q (.tup [.agg (dlCells d), .v (.bool true)]) h) ∧ (lineAt f id i = none → Q (.tup [.agg (dlCells .zero), .v (.bool false)]) h)
set_option maxRecDepth 20000 in
theorem does_dline : Does Tryz.prog 110 dlineSpec := by
  refine does_of_awp (good_cons does_fetch (good_cons does_lineOf good_nil)) Tryz.func110 rfl (by decide +kernel) (by decide +kernel) ?_
  rintro args h Q ⟨V, f, id, i, rfl, hV, hq1, hq2⟩
  refine ⟨by simp [Tryz.f110], ?_⟩
  rw [awpFunc_some (by rfl)]
  have hk := dlK_length id i
  unfold lineAt at hq1 hq2
  simp only [dlCells, Dl.zero] at hq2
  simp -dsimp only [Vm.G, List.lookup, Nat.reduceAdd, Nat.reduceBEq, Int.reduceBNe, Int.reduceBEq, Nat.reduceLeDiff, q110]
  refine bs_intro zr3 (by decide) (by decide) rfl rfl (by simp [solid, AV.cells]) ?_
  simp -dsimp only [Vm.G, List.lookup, Nat.reduceAdd, Nat.reduceBEq, Int.reduceBNe, Int.reduceBEq, Nat.reduceLeDiff, q110]
  refine call_one (S := fetchSpec) rfl _ GaL.rfl ⟨V, f, 76, [id, i], by simp, rfl, hV, fun v hf => ?_, fun hf => ?_⟩
  · have hvl := hV.len _ _ hf
    have hf : f (dlK id i) = some v := hf
    rw [hf] at hq1 hq2
    simp only [Option.bind_some] at hq1 hq2
    have ek : keyOf 76 [id, i] = dlK id i := rfl
    simp -dsimp only [Vm.G, List.lookup, Nat.reduceAdd, Nat.reduceBEq, Int.reduceBNe, Int.reduceBEq, Nat.reduceLeDiff, q110, ek]
    generalize dlK id i = key at hk hq1 hq2
    refine call_one (S := lineOfSpec) rfl _ GaL.rfl ⟨key, v, by omega, by omega, rfl, fun d hd => ?_, fun hd => ?_⟩
    · have hq := hq1 d hd
      simp only [dlCells] at hq ⊢
      simp -dsimp only [Vm.G, List.lookup, Nat.reduceAdd, Nat.reduceBEq, Int.reduceBNe, Int.reduceBEq, Nat.reduceLeDiff, q110]
      exact hq
    · have hq := hq2 hd
      simp only [dlCells, Dl.zero]
      simp -dsimp only [Vm.G, List.lookup, Nat.reduceAdd, Nat.reduceBEq, Int.reduceBNe, Int.reduceBEq, Nat.reduceLeDiff, q110]
      exact hq
  · have hf : f (dlK id i) = none := hf
    rw [hf] at hq2
    simp -dsimp only [Vm.G, List.lookup, Nat.reduceAdd, Nat.reduceBEq, Int.reduceBNe, Int.reduceBEq, Nat.reduceLeDiff, q110]
    exact hq2 rfl
/-- A document's lines, so many. -/
def linesAt (f : Fun) (id : Int) : Nat → Option (List Dl)
  | 0 => some []
  | n + 1 => (linesAt f id n).bind fun l => (lineAt f id n).map fun x => l ++ [x]
theorem linesAt_length {f : Fun} {id : Int} : ∀ {n : Nat} {l : List Dl}, linesAt f id n = some l → l.length = n
  | 0, l, h => by cases h; rfl
  | n + 1, l, h => by
    unfold linesAt at h
    cases h1 : linesAt f id n with
    | none => rw [h1] at h; cases h
    | some l1 =>
      rw [h1] at h
      cases h2 : lineAt f id n with
      | none => rw [Option.bind_some, h2] at h; cases h
      | some x =>
        rw [Option.bind_some, h2] at h
        cases h
        simp [linesAt_length h1]
theorem linesAt_none {f : Fun} {id : Int} : ∀ {n m : Nat}, n ≤ m → linesAt f id n = none → linesAt f id m = none
  | n, 0, hle, h => by
    obtain rfl : n = 0 := by omega
    exact h
  | n, m + 1, hle, h => by
    by_cases e : n = m + 1
    · subst e; exact h
    · have := linesAt_none (m := m) (by omega) h
      unfold linesAt
      rw [this]; rfl
def docAt (f : Fun) (id : Int) : Option (Dc × List Dl) := (docHead f id).bind fun d => (linesAt f id d.lines.toNat).map fun l => (d, l)
def docsGetSpec : Vm.Spec := fun args h Q => ∃ (V : VId) (f : Fun) (id : Int), args = [.ptr V.iv 0, .v (.int .i64 id)] ∧ isView h V f ∧
  (∀ d l, docAt f id = some (d, l) → l.length ≤ 6 → d.lines = l.length → Q (.otup 1 true 62 4 (l.map dlAv) [.agg (dcCells d), .any, .v (.bool true)]) h) ∧
  (docAt f id = none → Q (.tup [.agg (dcCells .zero), .v (.slice none 0 0), .v (.bool false)]) h)
theorem headOk_iff {id : Int} {d : Dc} : headOk id d = true ↔ d.id = id ∧ 1 ≤ d.lines ∧ d.lines ≤ 6 := by
  simp [headOk]
theorem docHead_ok {f : Fun} {id : Int} {d : Dc} (h : docHead f id = some d) : d.id = id ∧ 1 ≤ d.lines ∧ d.lines ≤ 6 := by
  unfold docHead at h
  cases h1 : f (dcK id) with
  | none => rw [h1] at h; cases h
  | some v =>
    rw [h1, Option.bind_some] at h
    cases h2 : docOf (dcK id) v with
    | none => rw [h2] at h; cases h
    | some d2 =>
      rw [h2, Option.bind_some] at h
      split at h
      · rename_i hc; cases h; exact headOk_iff.1 hc
      · cases h
set_option maxRecDepth 20000 in
set_option maxHeartbeats 2000000 in
theorem does_docsGet : Does Tryz.prog 37 docsGetSpec := by
  refine does_of_awpO 1 (good_cons does_doc (good_cons does_dline good_nil)) Tryz.func37 rfl (by decide +kernel) (by decide +kernel) ?_
  rintro args h Q ⟨V, f, id, rfl, hV, hq1, hq2⟩
  refine ⟨by simp [Tryz.f37], ?_⟩
  rw [awpFuncO_some (by rfl)]
  unfold docAt at hq1 hq2
  simp only [dcCells, Dc.zero] at hq2
  simp -dsimp only [Vm.G, List.lookup, Nat.reduceAdd, Nat.reduceBEq, Int.reduceBNe, Int.reduceBEq, Nat.reduceLeDiff, q37]
  refine call_one (S := docSpec) rfl _ GaL.rfl ⟨V, f, id, rfl, hV, fun d hd => ?_, fun hd d => ?_⟩
  · rw [hd] at hq1 hq2
    simp only [Option.bind_some] at hq1 hq2
    obtain ⟨-, hd1, hd2⟩ := docHead_ok hd
    simp only [dcCells] at hq1 ⊢
    have hn : ∃ n : Nat, d.lines = n ∧ 1 ≤ n ∧ n ≤ 6 := ⟨d.lines.toNat, by omega, by omega, by omega⟩
    rcases hn with ⟨n, hn, hn1, hn6⟩
    have htn : d.lines.toNat = n := by omega
    rw [htn] at hq1 hq2
    have cz : cst (.agg #[.int .i64 0, .int .i64 0, .int .i64 0, .int .i64 0]) = dlAv .zero := by simp [cst, plain, dlAv, dlCells, Dl.zero]
    simp -dsimp only [Vm.G, List.lookup, Nat.reduceAdd, Nat.reduceBEq, Int.reduceBNe, Int.reduceBEq, Nat.reduceLeDiff, q37, hn]
    refine make_intro ei55 z62 (.inr ⟨_, rfl, by simp [plain]⟩) (by omega) (Int.le_refl _) (by omega) (by omega) ?_
    rw [cz, Int.toNat_natCast]
    simp -dsimp only [Vm.G, List.lookup, Nat.reduceAdd, Nat.reduceBEq, Int.reduceBNe, Int.reduceBEq, Nat.reduceLeDiff, q37, List.length_replicate]
    refine awp_loop (fun m s h' => ∃ (i : Nat) (l : List Dl), i + m = n ∧ h' = h ∧ linesAt f id i = some l ∧ s = mk [(1, .v (.int .i64 id)), (7, .box [.ptr V.iv 0]), (8, .box [.v (.int .i64 d.id), .v (.int .i64 d.kind), .v (.int .i64 d.year), .v (.int .i64 d.frm), .v (.int .i64 d.lines)]), (10, .own true 62 4 ((l).map dlAv ++ List.replicate (n - (i)) (dlAv .zero))), (29, .v (.int .i64 (n : Nat))), (30, .v (.int .i64 (i : Nat))), (4, .box [.v (.int .i64 0), .v (.int .i64 0), .v (.int .i64 0), .v (.int .i64 0), .v (.int .i64 0)])])
      n _ (le_mk _ ?_) ⟨0, [], by omega, rfl, rfl, rfl⟩ ?_
    · simp only [List.forall_mem_cons, List.not_mem_nil, false_imp_iff, implies_true, and_true, List.map_nil, List.nil_append, Nat.sub_zero, hn]
      try simp -dsimp only [Vm.G, List.lookup, Nat.reduceAdd, Nat.reduceBEq, Int.reduceBNe, Int.reduceBEq, Nat.reduceLeDiff, q37, List.map_nil, List.nil_append, Nat.sub_zero, hn]
      repeat' first | exact Fg.refl _ | exact Fg.nil _ _ _ (by decide) | refine And.intro ?_ ?_
    · rintro m s h' ⟨i, l, hi, rfl, hli, rfl⟩
      simp -dsimp only [Vm.G, List.lookup, Nat.reduceAdd, Nat.reduceBEq, Int.reduceBNe, Int.reduceBEq, Nat.reduceLeDiff, q37]
      refine cond_intro (fun hcc => ?_) (fun hcc => ?_)
      · have hlt : i < n := by have := of_decide_eq_true hcc; omega
        have hw : IntKind.i64.wrap ((i : Int) + 1) = ((i + 1 : Nat) : Int) := by rw [wrap_i64 (by omega) (by omega)]; simp
        have hll := linesAt_length hli
        have hsuc : linesAt f id (i + 1) = (lineAt f id i).map fun x => l ++ [x] := by
          show (linesAt f id i).bind _ = _
          rw [hli]; rfl
        simp -dsimp only [Vm.G, List.lookup, Nat.reduceAdd, Nat.reduceBEq, Int.reduceBNe, Int.reduceBEq, Nat.reduceLeDiff, q37]
        refine call_one (S := dlineSpec) rfl _ GaL.rfl ⟨V, f, id, (i : Nat), rfl, hV, fun x hx => ?_, fun hx => ?_⟩
        · rw [hx] at hsuc
          have hsuc : linesAt f id (i + 1) = some (l ++ [x]) := hsuc
          have hgi : (l.map dlAv ++ List.replicate (n - i) (dlAv .zero))[i]? = some (dlAv .zero) := by
            rw [List.getElem?_append_right (by simp; omega), List.length_map, hll, Nat.sub_self, List.getElem?_replicate, if_pos (by omega)]
          have hre : (l.map dlAv ++ List.replicate (n - i) (dlAv .zero)).set i (dlAv x) = (l ++ [x]).map dlAv ++ List.replicate (n - (i + 1)) (dlAv .zero) := by
            rw [List.set_append_right _ _ (by simp; omega), List.length_map, hll, Nat.sub_self, show n - i = (n - (i + 1)) + 1 by omega, List.replicate_succ, List.set_cons_zero]
            simp
          simp only [dlCells]
          simp -dsimp only [Vm.G, List.lookup, Nat.reduceAdd, Nat.reduceBEq, Int.reduceBNe, Int.reduceBEq, Nat.reduceLeDiff, q37]
          refine idxO_intro (by omega) (by simp; omega) ?_
          simp -dsimp only [Vm.G, List.lookup, Nat.reduceAdd, Nat.reduceBEq, Int.reduceBNe, Int.reduceBEq, Nat.reduceLeDiff, q37, Int.toNat_natCast]
          refine store_elt 62 _ (by simp -dsimp only [Vm.E, List.lookup, Nat.reduceAdd, Nat.reduceBEq, Int.reduceBNe, Int.reduceBEq, Bool.true_beq, Bool.false_beq]) (y := dlAv .zero) hgi rfl rfl (by omega) rfl ?_
          simp only [dlAv, dlCells, AV.cells, putCells, reCell, List.take_zero, List.nil_append, List.length_cons, List.length_nil, Nat.zero_add, Nat.reduceAdd, List.drop_succ_cons, List.drop_zero, List.append_nil, List.drop_nil]
          simp only [dlAv, dlCells] at hre
          simp -dsimp only [Vm.G, List.lookup, Nat.reduceAdd, Nat.reduceBEq, Int.reduceBNe, Int.reduceBEq, Nat.reduceLeDiff, q37, hre]
          refine kept_intro ⟨n - (i + 1), by omega, _, le_mk [(1, .v (.int .i64 id)), (7, .box [.ptr V.iv 0]), (8, .box [.v (.int .i64 d.id), .v (.int .i64 d.kind), .v (.int .i64 d.year), .v (.int .i64 d.frm), .v (.int .i64 d.lines)]), (10, .own true 62 4 ((l ++ [x]).map dlAv ++ List.replicate (n - (i + 1)) (dlAv .zero))), (29, .v (.int .i64 (n : Nat))), (30, .v (.int .i64 (i + 1 : Nat))), (4, .box [.v (.int .i64 0), .v (.int .i64 0), .v (.int .i64 0), .v (.int .i64 0), .v (.int .i64 0)])] ?_, i + 1, l ++ [x], by omega, rfl, hsuc, rfl⟩
          simp only [List.forall_mem_cons, List.not_mem_nil, false_imp_iff, implies_true, and_true, hw, dlAv, dlCells]
          try simp -dsimp only [Vm.G, List.lookup, Nat.reduceAdd, Nat.reduceBEq, Int.reduceBNe, Int.reduceBEq, Nat.reduceLeDiff, q37, hw, dlAv, dlCells]
          repeat' first | exact Fg.refl _ | exact Fg.nil _ _ _ (by decide) | refine And.intro ?_ ?_
        · rw [hx] at hsuc
          rw [linesAt_none (m := n) (by omega) hsuc] at hq2
          simp only [dlCells]
          simp -dsimp only [Vm.G, List.lookup, Nat.reduceAdd, Nat.reduceBEq, Int.reduceBNe, Int.reduceBEq, Nat.reduceLeDiff, q37]
          exact hq2 rfl
      · have hge : ¬ i < n := by have := of_decide_eq_false hcc; omega
        obtain rfl : i = n := by omega
        rw [hli] at hq1
        have hll := linesAt_length hli
        have hq := hq1 d l rfl (by omega) (by omega)
        clear hq1 hq2
        rw [Nat.sub_self, List.replicate_zero, List.append_nil]
        simp -dsimp only [Vm.G, List.lookup, Nat.reduceAdd, Nat.reduceBEq, Int.reduceBNe, Int.reduceBEq, Nat.reduceLeDiff, q37]
        exact hq
  · rw [hd] at hq2
    simp only [dcCells]
    simp -dsimp only [Vm.G, List.lookup, Nat.reduceAdd, Nat.reduceBEq, Int.reduceBNe, Int.reduceBEq, Nat.reduceLeDiff, q37]
    exact hq2 rfl
/-- The number of a document of a year and a kind. -/
def ofYK (year kind : Int) (p : KV) : Option Int := (docOf p.1 p.2).bind fun d => if d.year = year ∧ d.kind = kind then some d.id else none
abbrev allD (year kind : Int) (l : List KV) : List Int := l.filterMap (ofYK year kind)
def docsAllSpec : Vm.Spec := fun args h Q => ∃ (V : VId) (f : Fun) (year kind : Int), args = [.ptr V.iv 0, .v (.int .i64 year), .v (.int .i64 kind)] ∧ isView h V f ∧ f.n ≤ 536870912 ∧
  ∀ l h', ScanIs f [68] l → l.length ≤ 2 * f.n → isView h' V f → Same h h' [] → Q (.own true 3 1 ((allD year kind l).map encI)) h'
set_option maxRecDepth 20000 in
set_option maxHeartbeats 1000000 in
theorem does_docsAll : Does Tryz.prog 39 docsAllSpec := by
  refine does_of_awp (good_cons does_scan (good_cons does_docOf good_nil)) Tryz.func39 rfl (by decide +kernel) (by decide +kernel) ?_
  rintro args h Q ⟨V, f, year, kind, rfl, hV, hn, hq⟩
  refine ⟨by simp [Tryz.f39], ?_⟩
  rw [awpFunc_some (by rfl)]
  simp -dsimp only [Vm.G, List.lookup, Nat.reduceAdd, Nat.reduceBEq, Int.reduceBNe, Int.reduceBEq, Nat.reduceLeDiff, q39]
  refine bs_intro zr5 (by decide) (by decide) rfl rfl (by simp [solid, AV.cells]) ?_
  simp -dsimp only [Vm.G, List.lookup, Nat.reduceAdd, Nat.reduceBEq, Int.reduceBNe, Int.reduceBEq, Nat.reduceLeDiff, q39]
  refine call_one (S := scanSpec) rfl _ GaL.rfl ⟨V, f, [68], rfl, by simp, hV, hn, fun l h1 hsc hln hV1 hs1 => ?_⟩
  simp -dsimp only [Vm.G, List.lookup, Nat.reduceAdd, Nat.reduceBEq, Int.reduceBNe, Int.reduceBEq, Nat.reduceLeDiff, q39]
  refine awp_loop (fun m s h' => ∃ i : Nat, i + m = l.length ∧ h' = h1 ∧ s = mk [(1, .v (.int .i64 year)), (2, .v (.int .i64 kind)), (7, .own true 3 1 ((allD year kind (l.take (i))).map encI)), (14, .own true 155 2 (l.map kvAv)), (15, .v (.int .i64 l.length)), (16, .v (.int .i64 (i : Nat)))])
    l.length _ (le_mk _ ?_) ⟨0, by omega, rfl, rfl⟩ ?_
  · simp only [List.forall_mem_cons, List.not_mem_nil, false_imp_iff, implies_true, and_true]
    try simp -dsimp only [Vm.G, List.lookup, Nat.reduceAdd, Nat.reduceBEq, Int.reduceBNe, Int.reduceBEq, Nat.reduceLeDiff, q39]
    repeat' first | exact Fg.refl _ | exact Fg.nil _ _ _ (by decide) | refine And.intro ?_ ?_
  · rintro m s h' ⟨i, hi, rfl, rfl⟩
    simp -dsimp only [Vm.G, List.lookup, Nat.reduceAdd, Nat.reduceBEq, Int.reduceBNe, Int.reduceBEq, Nat.reduceLeDiff, q39]
    refine cond_intro (fun hcc => ?_) (fun hcc => ?_)
    · have hlt : i < l.length := by have := of_decide_eq_true hcc; omega
      have hw : IntKind.i64.wrap ((i : Int) + 1) = ((i + 1 : Nat) : Int) := by rw [wrap_i64 (by omega) (by omega)]; simp
      have hget : (l.map kvAv)[i]? = some (kvAv l[i]) := by simp [hlt]
      have est := filterMap_step (ofYK year kind) l i hlt
      have hal : (allD year kind (l.take i)).length ≤ i := filterMap_le (ofYK year kind) l i
      have hin := ((hsc.2 l[i].1 l[i].2).1 (List.getElem_mem hlt)).1
      have hkl : l[i].1.length ≤ 32 := hV.klen hin
      have hvl : l[i].2.length ≤ 120 := hV.len _ _ hin
      clear hin
      generalize l[i] = p at hget est hkl hvl
      obtain ⟨k, v⟩ := p
      simp only at hkl hvl
      have e0 : ofYK year kind (k, v) = (docOf k v).bind fun d => if d.year = year ∧ d.kind = kind then some d.id else none := rfl
      rw [e0] at est
      clear e0
      simp -dsimp only [Vm.G, List.lookup, Nat.reduceAdd, Nat.reduceBEq, Int.reduceBNe, Int.reduceBEq, Nat.reduceLeDiff, q39]
      refine idxO_intro (by omega) (by simp; omega) ?_
      simp -dsimp only [Vm.G, List.lookup, Nat.reduceAdd, Nat.reduceBEq, Int.reduceBNe, Int.reduceBEq, Nat.reduceLeDiff, q39, Int.toNat_natCast]
      refine eltA_intro hget ?_
      simp only [kvAv]
      simp -dsimp only [Vm.G, List.lookup, Nat.reduceAdd, Nat.reduceBEq, Int.reduceBNe, Int.reduceBEq, Nat.reduceLeDiff, q39, AV.cells, List.drop_zero]
      refine call_one (S := docOfSpec) rfl _ GaL.rfl ⟨k, v, by omega, by omega, rfl, fun d hd => ?_, fun hd => ?_⟩
      · rw [hd, Option.bind_some] at est
        simp only [dcCells]
        simp -dsimp only [Vm.G, List.lookup, Nat.reduceAdd, Nat.reduceBEq, Int.reduceBNe, Int.reduceBEq, Nat.reduceLeDiff, q39]
        have hd1 := Bool.eq_false_or_eq_true (d.year == year)
        rcases hd1 with c1 | c1
        · have d1 : d.year = year := by simpa using c1
          have hd2 := Bool.eq_false_or_eq_true (d.kind == kind)
          rcases hd2 with c2 | c2
          · have d2 : d.kind = kind := by simpa using c2
            rw [if_pos ⟨d1, d2⟩] at est
            simp -dsimp only [Vm.G, List.lookup, Nat.reduceAdd, Nat.reduceBEq, Int.reduceBNe, Int.reduceBEq, Nat.reduceLeDiff, q39, c1, c2]
            refine bs_intro zr3 (by decide) (by decide) rfl rfl (by simp [solid, AV.cells]) ?_
            simp -dsimp only [Vm.G, List.lookup, Nat.reduceAdd, Nat.reduceBEq, Int.reduceBNe, Int.reduceBEq, Nat.reduceLeDiff, q39]
            refine app_sl Tryz.underlying28 (by simp [AV.cells]) (by simp only [List.length_map, List.length_cons, List.length_nil]; omega) ?_
            simp -dsimp only [Vm.G, List.lookup, Nat.reduceAdd, Nat.reduceBEq, Int.reduceBNe, Int.reduceBEq, Nat.reduceLeDiff, q39]
            refine kept_intro ⟨l.length - (i + 1), by omega, _, le_mk [(1, .v (.int .i64 year)), (2, .v (.int .i64 kind)), (7, .own true 3 1 ((allD year kind (l.take (i + 1))).map encI)), (14, .own true 155 2 (l.map kvAv)), (15, .v (.int .i64 l.length)), (16, .v (.int .i64 (i + 1 : Nat)))] ?_, i + 1, by omega, rfl, rfl⟩
            simp only [List.forall_mem_cons, List.not_mem_nil, false_imp_iff, implies_true, and_true, hw, est, Option.toList, List.append_nil, List.map_append, List.map_cons, List.map_nil, encI]
            try simp -dsimp only [Vm.G, List.lookup, Nat.reduceAdd, Nat.reduceBEq, Int.reduceBNe, Int.reduceBEq, Nat.reduceLeDiff, q39, hw, est, Option.toList, List.append_nil, List.map_append, List.map_cons, List.map_nil, encI]
            repeat' first | exact Fg.refl _ | exact Fg.nil _ _ _ (by decide) | refine And.intro ?_ ?_
          · have d2 : ¬ d.kind = kind := by simpa using c2
            rw [if_neg (fun hc => d2 hc.2)] at est
            simp -dsimp only [Vm.G, List.lookup, Nat.reduceAdd, Nat.reduceBEq, Int.reduceBNe, Int.reduceBEq, Nat.reduceLeDiff, q39, c1, c2]
            refine kept_intro ⟨l.length - (i + 1), by omega, _, le_mk [(1, .v (.int .i64 year)), (2, .v (.int .i64 kind)), (7, .own true 3 1 ((allD year kind (l.take (i + 1))).map encI)), (14, .own true 155 2 (l.map kvAv)), (15, .v (.int .i64 l.length)), (16, .v (.int .i64 (i + 1 : Nat)))] ?_, i + 1, by omega, rfl, rfl⟩
            simp only [List.forall_mem_cons, List.not_mem_nil, false_imp_iff, implies_true, and_true, hw, est, Option.toList, List.append_nil, List.map_append, List.map_cons, List.map_nil, encI]
            try simp -dsimp only [Vm.G, List.lookup, Nat.reduceAdd, Nat.reduceBEq, Int.reduceBNe, Int.reduceBEq, Nat.reduceLeDiff, q39, hw, est, Option.toList, List.append_nil, List.map_append, List.map_cons, List.map_nil, encI]
            repeat' first | exact Fg.refl _ | exact Fg.nil _ _ _ (by decide) | refine And.intro ?_ ?_
        · have d1 : ¬ d.year = year := by simpa using c1
          rw [if_neg (fun hc => d1 hc.1)] at est
          simp -dsimp only [Vm.G, List.lookup, Nat.reduceAdd, Nat.reduceBEq, Int.reduceBNe, Int.reduceBEq, Nat.reduceLeDiff, q39, c1]
          refine kept_intro ⟨l.length - (i + 1), by omega, _, le_mk [(1, .v (.int .i64 year)), (2, .v (.int .i64 kind)), (7, .own true 3 1 ((allD year kind (l.take (i + 1))).map encI)), (14, .own true 155 2 (l.map kvAv)), (15, .v (.int .i64 l.length)), (16, .v (.int .i64 (i + 1 : Nat)))] ?_, i + 1, by omega, rfl, rfl⟩
          simp only [List.forall_mem_cons, List.not_mem_nil, false_imp_iff, implies_true, and_true, hw, est, Option.toList, List.append_nil, List.map_append, List.map_cons, List.map_nil, encI]
          try simp -dsimp only [Vm.G, List.lookup, Nat.reduceAdd, Nat.reduceBEq, Int.reduceBNe, Int.reduceBEq, Nat.reduceLeDiff, q39, hw, est, Option.toList, List.append_nil, List.map_append, List.map_cons, List.map_nil, encI]
          repeat' first | exact Fg.refl _ | exact Fg.nil _ _ _ (by decide) | refine And.intro ?_ ?_
      · rw [hd, Option.bind_none] at est
        simp only [dcCells, Dc.zero]
        simp -dsimp only [Vm.G, List.lookup, Nat.reduceAdd, Nat.reduceBEq, Int.reduceBNe, Int.reduceBEq, Nat.reduceLeDiff, q39]
        refine kept_intro ⟨l.length - (i + 1), by omega, _, le_mk [(1, .v (.int .i64 year)), (2, .v (.int .i64 kind)), (7, .own true 3 1 ((allD year kind (l.take (i + 1))).map encI)), (14, .own true 155 2 (l.map kvAv)), (15, .v (.int .i64 l.length)), (16, .v (.int .i64 (i + 1 : Nat)))] ?_, i + 1, by omega, rfl, rfl⟩
        simp only [List.forall_mem_cons, List.not_mem_nil, false_imp_iff, implies_true, and_true, hw, est, Option.toList, List.append_nil, List.map_append, List.map_cons, List.map_nil, encI]
        try simp -dsimp only [Vm.G, List.lookup, Nat.reduceAdd, Nat.reduceBEq, Int.reduceBNe, Int.reduceBEq, Nat.reduceLeDiff, q39, hw, est, Option.toList, List.append_nil, List.map_append, List.map_cons, List.map_nil, encI]
        repeat' first | exact Fg.refl _ | exact Fg.nil _ _ _ (by decide) | refine And.intro ?_ ?_
    · have hge : ¬ i < l.length := by have := of_decide_eq_false hcc; omega
      simp -dsimp only [Vm.G, List.lookup, Nat.reduceAdd, Nat.reduceBEq, Int.reduceBNe, Int.reduceBEq, Nat.reduceLeDiff, q39]
      rw [List.take_of_length_le (by omega)]
      exact hq l h' hsc hln hV1 hs1
def openD (x : Dl) : Int := w64 (x.orig - w64 (x.liq + x.can))
def openDSpec : Vm.Spec := fun args h Q => ∃ x : Dl, args = [dlAv x] ∧ Q (.v (.int .i64 (openD x))) h
theorem does_docsOpen : Does Tryz.prog 48 openDSpec := by
  refine does_of_awp good_nil Tryz.func48 rfl (by decide +kernel) (by decide +kernel) ?_
  rintro args h Q ⟨x, rfl, hq⟩
  refine ⟨by simp [Tryz.f48], ?_⟩
  rw [awpFunc_some (by rfl)]
  simp only [dlAv, dlCells]
  simp -dsimp only [Vm.G, List.lookup, Nat.reduceAdd, Nat.reduceBEq, Int.reduceBNe, Int.reduceBEq, Nat.reduceLeDiff, q48]
  exact hq
def inD (n : Int) : Bool := decide (n ≥ 0) && decide (n ≤ 1152921504606846976)
def rightD (x : Dl) : Bool := inD x.orig && (inD x.liq && (inD x.can && inD (openD x)))
def rightDSpec : Vm.Spec := fun args h Q => ∃ x : Dl, args = [dlAv x] ∧ Q (.v (.bool (rightD x))) h
def fourD (x : Dl) : List Int := [x.orig, x.liq, x.can, openD x]
theorem rightD_four (x : Dl) : rightD x = (fourD x).all inD := by
  unfold rightD fourD
  simp [List.all_cons]
set_option maxRecDepth 20000 in
set_option maxHeartbeats 2000000 in
theorem does_docsRight : Does Tryz.prog 50 rightDSpec := by
  refine does_of_awp (good_cons does_docsOpen good_nil) Tryz.func50 rfl (by decide +kernel) (by decide +kernel) ?_
  rintro args h Q ⟨x, rfl, hq⟩
  refine ⟨by simp [Tryz.f50], ?_⟩
  rw [awpFunc_some (by rfl)]
  rw [rightD_four] at hq
  simp only [dlAv, dlCells]
  simp -dsimp only [Vm.G, List.lookup, Nat.reduceAdd, Nat.reduceBEq, Int.reduceBNe, Int.reduceBEq, Nat.reduceLeDiff, q50]
  refine draw_cont [1] (.take 0 (.take 1 (.take 2 (.take 3 (.take 4 (.take 5 (.take 6 (.take 9 (.alt 7 (.alt 8 (.done) .stop) .stop))))))))) (fun s h2 => h2 = h ∧ s 2 = .v (.bool false) ∧ s 13 = .agg ((fourD x).map encI) ∧ s 14 = .v (.int .i64 0)) (by kernel_rfl) (by kernel_rfl) (by kernel_rfl) (by decide) ?_ ?_
  · clear hq
    simp only [fourD, List.map_cons, List.map_nil, encI]
    repeat' first
      | with_reducible exact True.intro
      | refine call_one (S := openDSpec) rfl _ GaL.rfl ⟨x, rfl, ?_⟩
      | simp -dsimp only [Vm.G, List.lookup, Nat.reduceAdd, Nat.reduceBEq, Int.reduceBNe, Int.reduceBEq, Nat.reduceLeDiff, q50]
      | refine tree_alt ?_ ?_
      | repeat' first | rfl | exact True.intro | refine And.intro ?_ ?_
  · rintro s h2 ⟨rfl, e2, e13, e14⟩
    have h4 : (fourD x).length = 4 := rfl
    generalize fourD x = l at h4 hq e13
    simp -dsimp only [Vm.G, List.lookup, Nat.reduceAdd, Nat.reduceBEq, Int.reduceBNe, Int.reduceBEq, Nat.reduceLeDiff, q50, e2, e13, e14]
    refine awp_loop (fun m s h' => ∃ i : Nat, i + m = 4 ∧ h' = h2 ∧ (∀ j (hj : j < l.length), j < i → inD l[j] = true) ∧ s = mk [(2, .v (.bool false)), (13, .agg (l.map encI)), (14, .v (.int .i64 (i : Nat)))])
      4 _ (le_mk _ ?_) ⟨0, by omega, rfl, fun j _ hj => by omega, rfl⟩ ?_
    · simp only [List.forall_mem_cons, List.not_mem_nil, false_imp_iff, implies_true, and_true, e2, e13, e14]
      try simp -dsimp only [Vm.G, List.lookup, Nat.reduceAdd, Nat.reduceBEq, Int.reduceBNe, Int.reduceBEq, Nat.reduceLeDiff, q50, e2, e13, e14]
      repeat' first | exact Fg.refl _ | exact Fg.nil _ _ _ (by decide) | refine And.intro ?_ ?_
    · clear e2 e13 e14
      rintro m s h' ⟨i, hi, rfl, hb, rfl⟩
      simp -dsimp only [Vm.G, List.lookup, Nat.reduceAdd, Nat.reduceBEq, Int.reduceBNe, Int.reduceBEq, Nat.reduceLeDiff, q50]
      refine cond_intro (fun hcc => ?_) (fun hcc => ?_)
      · have hlt : i < l.length := by have := of_decide_eq_true hcc; omega
        have hw : IntKind.i64.wrap ((i : Int) + 1) = ((i + 1 : Nat) : Int) := by rw [wrap_i64 (by omega) (by omega)]; simp
        have hget : (l.map encI)[(i : Int).toNat]? = some (encI l[i]) := by simp [hlt]
        have hno : inD l[i] = false → l.all inD = false := fun hp => List.all_eq_false.2 ⟨l[i], List.getElem_mem hlt, by rw [hp]; decide⟩
        have hyes : inD l[i] = true → ∀ j (hj : j < l.length), j < i + 1 → inD l[j] = true := fun hp j hj hj2 => by
          by_cases hji : j = i
          · subst hji; exact hp
          · exact hb j hj (by omega)
        generalize l[i] = n at hget hno hyes
        simp only [encI] at hget
        simp -dsimp only [Vm.G, List.lookup, Nat.reduceAdd, Nat.reduceBEq, Int.reduceBNe, Int.reduceBEq, Nat.reduceLeDiff, q50]
        refine index_arr un174 un3 (by kernel_rfl) (by omega) (by omega) hget ?_
        simp -dsimp only [Vm.G, List.lookup, Nat.reduceAdd, Nat.reduceBEq, Int.reduceBNe, Int.reduceBEq, Nat.reduceLeDiff, q50]
        have hd1 := Bool.eq_false_or_eq_true (decide (n < 0))
        rcases hd1 with c1 | c1
        · have d1 := of_decide_eq_true c1
          rw [hno (by unfold inD; rw [decide_eq_false (p := n ≥ 0) (by omega)]; rfl)] at hq
          simp -dsimp only [Vm.G, List.lookup, Nat.reduceAdd, Nat.reduceBEq, Int.reduceBNe, Int.reduceBEq, Nat.reduceLeDiff, q50, c1]
          exact hq
        · have d1 := of_decide_eq_false c1
          have hd2 := Bool.eq_false_or_eq_true (decide (n > 1152921504606846976))
          rcases hd2 with c2 | c2
          · have d2 := of_decide_eq_true c2
            rw [hno (by unfold inD; rw [decide_eq_true (p := n ≥ 0) (by omega), decide_eq_false (by omega)]; rfl)] at hq
            simp -dsimp only [Vm.G, List.lookup, Nat.reduceAdd, Nat.reduceBEq, Int.reduceBNe, Int.reduceBEq, Nat.reduceLeDiff, q50, c1, c2]
            exact hq
          · have d2 := of_decide_eq_false c2
            have hin : inD n = true := by unfold inD; rw [decide_eq_true (p := n ≥ 0) (by omega), decide_eq_true (by omega)]; rfl
            simp -dsimp only [Vm.G, List.lookup, Nat.reduceAdd, Nat.reduceBEq, Int.reduceBNe, Int.reduceBEq, Nat.reduceLeDiff, q50, c1, c2]
            refine kept_intro ⟨4 - (i + 1), by omega, _, le_mk [(2, .v (.bool false)), (13, .agg (l.map encI)), (14, .v (.int .i64 (i + 1 : Nat)))] ?_, i + 1, by omega, rfl, hyes hin, rfl⟩
            simp only [List.forall_mem_cons, List.not_mem_nil, false_imp_iff, implies_true, and_true, hw]
            try simp -dsimp only [Vm.G, List.lookup, Nat.reduceAdd, Nat.reduceBEq, Int.reduceBNe, Int.reduceBEq, Nat.reduceLeDiff, q50, hw]
            repeat' first | exact Fg.refl _ | exact Fg.nil _ _ _ (by decide) | refine And.intro ?_ ?_
      · have hge : ¬ i < 4 := by have := of_decide_eq_false hcc; omega
        have hall : l.all inD = true := List.all_eq_true.2 fun y hy => by
          obtain ⟨j, hj, rfl⟩ := List.getElem_of_mem hy
          exact hb j hj (by omega)
        rw [hall] at hq
        simp -dsimp only [Vm.G, List.lookup, Nat.reduceAdd, Nat.reduceBEq, Int.reduceBNe, Int.reduceBEq, Nat.reduceLeDiff, q50]
        exact hq
end Go.Proofs.Lx
/- Documents, the reference's: ref30. -/
set_option linter.unusedSimpArgs false
set_option linter.unusedVariables false
namespace Go.Proofs.Lx
open Go.Vm
attribute [local irreducible] awpArr awpBin awpMake awpAppend awpCvX awpStrOf awpBinX awpSlice awpBS awpStore awpAlloc awpCopy awpIndex awpDraw awpIdxX awpFa awpField awpLookup awpUpdate awpDelete awpClear awpRange awpNext awpEntry awpBuild awpClearS awpIdxL awpTree appB awpIdxO eltA treeA
end Go.Proofs.Lx
/- The law SeqnRises: walked. -/
set_option linter.unusedSimpArgs false
set_option linter.unusedVariables false
namespace Go.Proofs.Lx
open Go.Vm
attribute [local irreducible] awpArr awpBin awpMake awpAppend awpCvX awpStrOf awpBinX awpSlice awpBS awpStore awpAlloc awpCopy awpIndex awpDraw awpIdxX awpFa awpField awpLookup awpUpdate awpDelete awpClear awpRange awpNext awpEntry awpBuild
end Go.Proofs.Lx
/- The law SeqnGives. -/
set_option linter.unusedSimpArgs false
set_option linter.unusedVariables false
namespace Go.Proofs.Lx
open Go.Vm
attribute [local irreducible] awpArr awpBin awpMake awpAppend awpCvX awpStrOf awpBinX awpSlice awpBS awpStore awpAlloc awpCopy awpIndex awpDraw awpIdxX awpFa awpField awpLookup awpUpdate awpDelete awpClear awpRange awpNext awpEntry awpBuild awpClearS awpIdxL
end Go.Proofs.Lx
/- The law YearsLive. -/
set_option linter.unusedSimpArgs false
set_option linter.unusedVariables false
namespace Go.Proofs.Lx
open Go.Vm
attribute [local irreducible] awpArr awpBin awpMake awpAppend awpCvX awpStrOf awpBinX awpSlice awpBS awpStore awpAlloc awpCopy awpIndex awpDraw awpIdxX awpFa awpField awpLookup awpUpdate awpDelete awpClear awpRange awpNext awpEntry awpBuild awpClearS awpIdxL awpTree appB awpIdxO eltA treeA
end Go.Proofs.Lx
/- The law PreOpen. -/
set_option linter.unusedSimpArgs false
set_option linter.unusedVariables false
namespace Go.Proofs.Lx
open Go.Vm
attribute [local irreducible] awpArr awpBin awpMake awpAppend awpCvX awpStrOf awpBinX awpSlice awpBS awpStore awpAlloc awpCopy awpIndex awpDraw awpIdxX awpFa awpField awpLookup awpUpdate awpDelete awpClear awpRange awpNext awpEntry awpBuild awpClearS awpIdxL awpTree appB awpIdxO eltA treeA
abbrev InR (n : Int) : Prop := 0 ≤ n ∧ n ≤ 4294967295
theorem keyOf_tag {t t' : UInt8} {l l' : List Int} (h : t ≠ t') : keyOf t l ≠ keyOf t' l' := fun e => by
  unfold keyOf at e
  exact h (List.cons.inj e).1
theorem bit_ne (b : Bool) : (bitOf b != 0) = b := by cases b <;> rfl
theorem nodeOf_put {m : Nd} (hm : m.ok) (r1 : InR m.year) (r2 : InR m.id) : nodeOf (ndK m) (ndV m) = some m := by
  have hv : ndV m = packs 8 (ndVal m) := rfl
  have hn : numsOf (packs 8 (ndVal m)) 10 = ndVal m := by
    refine numsOf_packs (ndVal m) fun x hx => ?_
    obtain ⟨o1, o2, o3, o4, o5, o6, o7, o8, o9, o10, o11⟩ := hm
    have ob := bit_i64 m.abs
    simp only [ndVal, List.mem_cons, List.not_mem_nil, or_false] at hx
    rcases hx with rfl | rfl | rfl | rfl | rfl | rfl | rfl | rfl | rfl | rfl <;> assumption
  unfold nodeOf numsPair
  rw [ndK, splitOf_key 78 (ndKey m) (by simp [ndKey])]
  have hk : (ndKey m).map clampK = [m.year, m.id] := by simp [ndKey, clampK_id r1.1 r1.2, clampK_id r2.1 r2.2]
  simp only [hk]
  rw [if_pos ⟨trivial, rfl, ndV_length m⟩, hv, hn]
  obtain ⟨a1, a2, a3, a4, a5, a6, a7, a8, a9, a10, a11, a12⟩ := m
  simp [ndOf, ndVal, bit_ne]
end Go.Proofs.Lx
/- Plain laws for DocsBack. -/
set_option linter.unusedSimpArgs false
set_option linter.unusedVariables false
namespace Go.Proofs.Lx
open Go.Vm
attribute [local irreducible] awpArr awpBin awpMake awpAppend awpCvX awpStrOf awpBinX awpSlice awpBS awpStore awpAlloc awpCopy awpIndex awpDraw awpIdxX awpFa awpField awpLookup awpUpdate awpDelete awpClear awpRange awpNext awpEntry awpBuild awpClearS awpIdxL awpTree appB awpIdxO eltA treeA
theorem docOf_put {d : Dc} (hd : d.ok) (hr : InR d.id) : docOf (dcK d.id) (dcV d) = some d := by
  obtain ⟨o1, o2, o3, o4, o5⟩ := hd
  have hv : dcV d = packs 8 [d.kind, d.year, d.frm, d.lines] := rfl
  have hn : numsOf (packs 8 [d.kind, d.year, d.frm, d.lines]) 4 = [d.kind, d.year, d.frm, d.lines] := numsOf_packs [d.kind, d.year, d.frm, d.lines] fun x hx => by
    simp only [List.mem_cons, List.not_mem_nil, or_false] at hx
    rcases hx with rfl | rfl | rfl | rfl <;> assumption
  unfold docOf numsPair
  rw [dcK, splitOf_key 68 [d.id] (by simp)]
  have hk : ([d.id] : List Int).map clampK = [d.id] := by simp [clampK_id hr.1 hr.2]
  simp only [hk]
  rw [if_pos ⟨trivial, rfl, dcV_length d⟩, hv, hn]
  rfl
theorem lineOf_put {x : Dl} (hx : x.ok) {id i : Int} (h1 : InR id) (h2 : InR i) : lineOf (dlK id i) (dlV x) = some x := by
  obtain ⟨o1, o2, o3, o4⟩ := hx
  have hv : dlV x = packs 8 [x.node, x.orig, x.liq, x.can] := rfl
  have hn : numsOf (packs 8 [x.node, x.orig, x.liq, x.can]) 4 = [x.node, x.orig, x.liq, x.can] := numsOf_packs [x.node, x.orig, x.liq, x.can] fun y hy => by
    simp only [List.mem_cons, List.not_mem_nil, or_false] at hy
    rcases hy with rfl | rfl | rfl | rfl <;> assumption
  unfold lineOf numsPair
  rw [dlK, splitOf_key 76 [id, i] (by simp)]
  have hk : ([id, i] : List Int).map clampK = [id, i] := by simp [clampK_id h1.1 h1.2, clampK_id h2.1 h2.2]
  simp only [hk]
  rw [if_pos ⟨trivial, rfl, dlV_length x⟩, hv, hn]
  rfl
theorem dlK_inj {id a b : Int} (ha : InR a) (hb : InR b) (h : dlK id a = dlK id b) : a = b := by
  have := (key_inj (by simp) (by simp) h).2
  simp only [List.map_cons, List.map_nil, clampK_id ha.1 ha.2, clampK_id hb.1 hb.2] at this
  simpa using this
theorem putLines_other (id : Int) : ∀ (l : List Dl) (i : Nat) (f : Fun) (k : List UInt8), (∀ j, j < l.length → k ≠ dlK id ((i + j : Nat) : Int)) → putLines id i l f k = f k
  | [], _, _, _, _ => rfl
  | x :: r, i, f, k, h => by
    have h0 := h 0 (by simp)
    show putLines id (i + 1) r (upd f (dlK id i) (some (dlV x))) k = f k
    rw [putLines_other id r (i + 1) _ k fun j hj => by
      have := h (j + 1) (by simpa using hj)
      rwa [show i + (j + 1) = i + 1 + j by omega] at this]
    rw [upd_app, if_neg (by simpa using h0)]
theorem putLines_get (id : Int) : ∀ (l : List Dl) (i : Nat) (f : Fun) (j : Nat) (hj : j < l.length), i + l.length ≤ 100 → putLines id i l f (dlK id ((i + j : Nat) : Int)) = some (dlV l[j])
  | x :: r, i, f, 0, hj, hb => by
    show putLines id (i + 1) r (upd f (dlK id i) (some (dlV x))) (dlK id ((i + 0 : Nat) : Int)) = _
    simp only [List.length_cons] at hb
    rw [putLines_other id r (i + 1) _ _ fun j' hj' e => by
      have := dlK_inj ⟨by omega, by omega⟩ ⟨by omega, by omega⟩ e
      omega]
    rw [upd_app, if_pos (by rw [Nat.add_zero])]; rfl
  | x :: r, i, f, j + 1, hj, hb => by
    show putLines id (i + 1) r (upd f (dlK id i) (some (dlV x))) (dlK id ((i + (j + 1) : Nat) : Int)) = _
    simp only [List.length_cons] at hb hj
    have := putLines_get id r (i + 1) (upd f (dlK id i) (some (dlV x))) j (by omega) (by omega)
    rw [show i + (j + 1) = i + 1 + j by omega]
    exact this
theorem putLines_some (id : Int) : ∀ (l : List Dl) (i : Nat) (f : Fun) (k v : List UInt8), putLines id i l f k = some v → (∃ j : Int, k = dlK id j) ∨ f k = some v
  | [], _, _, _, _, h => .inr h
  | x :: r, i, f, k, v, h => by
    rcases putLines_some id r (i + 1) _ k v h with h' | h'
    · exact .inl h'
    · rw [upd_app] at h'
      split at h'
      · rename_i e; exact .inl ⟨_, e⟩
      · exact .inr h'
/-- The first document of a view. -/
def dc1 (d : Dc) (l : List Dl) : Dc := { d with id := 1, lines := l.length }
def dF (d : Dc) (l : List Dl) : Fun := docsF noF 1 d l
theorem docs_put {d : Dc} {l : List Dl} (h1 : 1 ≤ l.length) (h6 : l.length ≤ 6) : docsPut noF d l = (dF d l, 1, 0) := by
  have hr : readOf noF (seqKey 2) = 0 := rfl
  unfold docsPut
  rw [if_neg (by omega), hr, if_neg (by omega)]
  rfl
theorem dc1_ok {d : Dc} {l : List Dl} (hd : d.ok) (h6 : l.length ≤ 6) : (dc1 d l).ok := by
  obtain ⟨o1, o2, o3, o4, o5⟩ := hd
  exact ⟨by show I64 1; unfold I64; omega, o2, o3, o4, by show I64 (l.length : Int); unfold I64; omega⟩
theorem dF_doc (d : Dc) (l : List Dl) : dF d l (dcK 1) = some (dcV (dc1 d l)) := by
  unfold dF docsF
  rw [upd_app, if_pos rfl]; rfl
theorem dF_line {d : Dc} {l : List Dl} (h6 : l.length ≤ 6) (j : Nat) (hj : j < l.length) : dF d l (dlK 1 (j : Nat)) = some (dlV l[j]) := by
  unfold dF docsF
  rw [upd_app, if_neg (show ¬ dlK 1 (j : Nat) = dcK 1 from keyOf_tag (by decide))]
  have := putLines_get 1 l 0 (upd noF (seqKey 2) (some (be 8 1))) j hj (by omega)
  simpa using this
theorem dF_at {d : Dc} {l : List Dl} (hd : d.ok) (hl : ∀ x ∈ l, x.ok) (h1 : 1 ≤ l.length) (h6 : l.length ≤ 6) : docAt (dF d l) 1 = some (dc1 d l, l) := by
  have hh : docHead (dF d l) 1 = some (dc1 d l) := by
    unfold docHead
    rw [dF_doc, Option.bind_some]
    have := docOf_put (dc1_ok (l := l) hd h6) ⟨by show (0 : Int) ≤ 1; omega, by show (1 : Int) ≤ _; omega⟩
    have e : dcK (dc1 d l).id = dcK 1 := rfl
    rw [e] at this
    rw [this, Option.bind_some, if_pos]
    exact headOk_iff.2 ⟨rfl, by show 1 ≤ (l.length : Int); omega, by show (l.length : Int) ≤ 6; omega⟩
  have hln : ∀ n, n ≤ l.length → linesAt (dF d l) 1 n = some (l.take n) := fun n => by
    induction n with
    | zero => intro _; rfl
    | succ n ih =>
      intro hn
      show (linesAt (dF d l) 1 n).bind _ = _
      rw [ih (by omega), Option.bind_some]
      have : lineAt (dF d l) 1 (n : Nat) = some l[n] := by
        unfold lineAt
        rw [dF_line h6 n (by omega), Option.bind_some]
        exact lineOf_put (hl _ (List.getElem_mem _)) ⟨by omega, by omega⟩ ⟨by omega, by omega⟩
      rw [this, List.take_succ_eq_append_getElem (by omega)]; rfl
  unfold docAt
  rw [hh, Option.bind_some]
  have e : (dc1 d l).lines.toNat = l.length := by show ((l.length : Int)).toNat = _; omega
  rw [e, hln _ (Nat.le_refl _), List.take_length]; rfl
theorem dF_scan (d : Dc) (l : List Dl) : ScanIs (dF d l) [68] [(dcK 1, dcV (dc1 d l))] := by
  refine ⟨List.pairwise_singleton .., fun k v => ⟨fun h => ?_, fun ⟨h1, h2⟩ => ?_⟩⟩
  · rw [List.mem_singleton] at h
    cases h
    exact ⟨dF_doc d l, rfl⟩
  · have h1' := h1
    unfold dF docsF at h1
    rw [upd_app] at h1
    split at h1
    · rename_i e
      subst e
      rw [dF_doc] at h1'
      cases h1'
      exact List.mem_singleton.2 rfl
    · rcases putLines_some _ _ _ _ _ _ h1 with ⟨j, e⟩ | h
      · rw [e] at h2
        have : ([68] : List UInt8).isPrefixOf (dlK 1 j) = false := rfl
        rw [this] at h2; cases h2
      · rw [upd_app] at h
        split at h
        · rename_i e
          rw [e] at h2
          have : ([68] : List UInt8).isPrefixOf (seqKey 2) = false := rfl
          rw [this] at h2; cases h2
        · cases h
theorem dF_all {d : Dc} {l : List Dl} (hd : d.ok) (h6 : l.length ≤ 6) (y k : Int) : allD y k [(dcK 1, dcV (dc1 d l))] = if d.year = y ∧ d.kind = k then [1] else [] := by
  have := docOf_put (dc1_ok (l := l) hd h6) ⟨by show (0 : Int) ≤ 1; omega, by show (1 : Int) ≤ _; omega⟩
  have e : dcK (dc1 d l).id = dcK 1 := rfl
  rw [e] at this
  have hof : ofYK y k (dcK 1, dcV (dc1 d l)) = if d.year = y ∧ d.kind = k then some 1 else none := by
    unfold ofYK
    simp only [this, Option.bind_some]
    rfl
  unfold allD
  rw [List.filterMap_cons, hof]
  split
  · rename_i h; split at h
    · cases h
    · rename_i hc; rw [if_neg hc]; rfl
  · rename_i h; split at h
    · rename_i hc; cases h; rw [if_pos hc]; rfl
    · cases h
theorem xor_ne {n : Int} (h : I64 n) : ¬ n = Go.bits .xor .i64 (-1) n := fun e => by
  have e1 : Go.bits .xor .i64 (-1) n = IntKind.i64.wrap ((BitVec.ofInt 64 (-1) ^^^ BitVec.ofInt 64 n).toNat : Int) := rfl
  rw [e1, wrap_i64_toInt] at e
  have e2 : BitVec.ofInt 64 ((BitVec.ofInt 64 (-1) ^^^ BitVec.ofInt 64 n).toNat : Int) = BitVec.ofInt 64 (-1) ^^^ BitVec.ofInt 64 n := by
    rw [BitVec.ofInt_natCast, BitVec.ofNat_toNat, BitVec.setWidth_eq]
  rw [e2] at e
  have e3 := congrArg (BitVec.ofInt 64) e
  rw [BitVec.ofInt_toInt] at e3
  generalize BitVec.ofInt 64 n = b at e3
  have e4 := congrArg (fun x => x ^^^ b) e3
  simp only [BitVec.xor_assoc, BitVec.xor_self, BitVec.xor_zero] at e4
  exact absurd e4 (by decide)
end Go.Proofs.Lx
/- The law DocsBack: walks. -/
set_option linter.unusedSimpArgs false
set_option linter.unusedVariables false
namespace Go.Proofs.Lx
open Go.Vm
attribute [local irreducible] awpArr awpBin awpMake awpAppend awpCvX awpStrOf awpBinX awpSlice awpBS awpStore awpAlloc awpCopy awpIndex awpDraw awpIdxX awpFa awpField awpLookup awpUpdate awpDelete awpClear awpRange awpNext awpEntry awpBuild awpClearS awpIdxL awpTree appB awpIdxO eltA treeA
theorem eqDl (x y : Dl) : ((x.node == y.node) && ((x.orig == y.orig) && ((x.liq == y.liq) && (x.can == y.can)))) = true ↔ x = y := by
  obtain ⟨a, b, c, d⟩ := x
  obtain ⟨a2, b2, c2, d2⟩ := y
  simp [and_assoc]
def eqSpecDl : Vm.Spec := fun args h Q => ∃ l l' : List Dl, l.length ≤ 9223372036854775807 ∧ args = [.sl 4 (l.map dlAv), .sl 4 (l'.map dlAv)] ∧ ∀ b : Bool, (b = true ↔ l = l') → Q (.v (.bool b)) h
set_option maxHeartbeats 1000000 in
theorem does_eqDl : Does Tryz.prog 38 eqSpecDl := by
  refine does_of_awp good_nil Tryz.func38 rfl (by decide +kernel) (by decide +kernel) ?_
  rintro args h Q ⟨l, l', hl, rfl, hq⟩
  refine ⟨by simp [Tryz.f38], ?_⟩
  rw [awpFunc_some (by rfl)]
  simp -dsimp only [Vm.G, List.lookup, Nat.reduceAdd, Nat.reduceBEq, Int.reduceBNe, Int.reduceBEq, Nat.reduceLeDiff, q38]
  by_cases hlen : l.length = l'.length
  · have c1 : ((l.length : Int) != l'.length) = false := by simp [hlen]
    simp -dsimp only [Vm.G, List.lookup, Nat.reduceAdd, Nat.reduceBEq, Int.reduceBNe, Int.reduceBEq, Nat.reduceLeDiff, q38, c1]
    refine awp_loop (fun m s h' => ∃ i : Nat, i + m = l.length ∧ h' = h ∧ (∀ j (hj : j < l.length), j < i → l[j] = l'[j]'(by omega)) ∧ s = mk [(0, .sl 4 (l.map dlAv)), (1, .sl 4 (l'.map dlAv)), (12, .v (.int .i64 l.length)), (13, .v (.int .i64 i))])
      l.length _ (le_mk _ ?_) ⟨0, by omega, rfl, fun j _ hj => by omega, rfl⟩ ?_
    · simp only [List.forall_mem_cons, List.not_mem_nil, false_imp_iff, implies_true, and_true]
      try simp -dsimp only [Vm.G, List.lookup, Nat.reduceAdd, Nat.reduceBEq, Int.reduceBNe, Int.reduceBEq, Nat.reduceLeDiff, q38]
      repeat' first | exact Fg.refl _ | exact Fg.nil _ _ _ (by decide) | refine And.intro ?_ ?_
    · rintro m s h' ⟨i, hi, rfl, hb, rfl⟩
      simp -dsimp only [Vm.G, List.lookup, Nat.reduceAdd, Nat.reduceBEq, Int.reduceBNe, Int.reduceBEq, Nat.reduceLeDiff, q38]
      refine cond_intro (fun hcc => ?_) (fun hcc => ?_)
      · have hlt : i < l.length := by have := of_decide_eq_true hcc; omega
        have hlt' : i < l'.length := by omega
        obtain ⟨x, hx⟩ : ∃ x, l[i] = x := ⟨_, rfl⟩
        obtain ⟨y, hy⟩ : ∃ y, l'[i] = y := ⟨_, rfl⟩
        have hw : IntKind.i64.wrap ((i : Int) + 1) = ((i + 1 : Nat) : Int) := by rw [wrap_i64 (by omega) (by omega)]; simp
        simp -dsimp only [Vm.G, List.lookup, Nat.reduceAdd, Nat.reduceBEq, Int.reduceBNe, Int.reduceBEq, Nat.reduceLeDiff, q38]
        refine draw_cont [] (.take 0 (.take 1 (.take 2 (.take 3 (.take 4 (.take 5 (.take 6 (.take 7 (.take 8 (.done)))))))))) (fun s hx => hx = h' ∧ (∃ b : Bool, (b = true ↔ x = y) ∧ s 24 = .v (.bool (!b))) ∧ s 0 = .sl 4 (l.map dlAv) ∧ s 1 = .sl 4 (l'.map dlAv) ∧ s 12 = .v (.int .i64 l.length) ∧ s 13 = .v (.int .i64 i)) (by kernel_rfl) (by kernel_rfl) (by kernel_rfl) (by decide) ?_ ?_
        · simp -dsimp only [Vm.G, List.lookup, Nat.reduceAdd, Nat.reduceBEq, Int.reduceBNe, Int.reduceBEq, Nat.reduceLeDiff, q38]
          refine idx_map dlAv l i hlt ?_
          simp only [hx, dlAv, dlCells]
          simp -dsimp only [Vm.G, List.lookup, Nat.reduceAdd, Nat.reduceBEq, Int.reduceBNe, Int.reduceBEq, Nat.reduceLeDiff, q38, AV.cells]
          refine idx_map dlAv l' i hlt' ?_
          simp only [hy, dlAv, dlCells]
          simp -dsimp only [Vm.G, List.lookup, Nat.reduceAdd, Nat.reduceBEq, Int.reduceBNe, Int.reduceBEq, Nat.reduceLeDiff, q38, AV.cells]
          refine eq_agg fd62 rfl ?_
          simp -dsimp only [Vm.G, List.lookup, Nat.reduceAdd, Nat.reduceBEq, Int.reduceBNe, Int.reduceBEq, Nat.reduceLeDiff, q38]
          refine ⟨⟨_, eqDl x y, rfl⟩, ?_⟩
          repeat' first | rfl | exact True.intro | refine And.intro ?_ ?_
        · rintro s hx2 ⟨rfl, ⟨b, hbe, e24⟩, e0, e1, e12, e13⟩
          cases b
          · have hne : ¬ l = l' := fun e => by
              have : x = y := by subst e; rw [← hx, ← hy]
              have := hbe.2 this
              cases this
            simp -dsimp only [Vm.G, List.lookup, Nat.reduceAdd, Nat.reduceBEq, Int.reduceBNe, Int.reduceBEq, Nat.reduceLeDiff, q38, e24, e0, e1, e12, e13]
            exact hq false ⟨fun h => (by cases h), fun h => (hne h).elim⟩
          · have he := hbe.1 rfl
            simp -dsimp only [Vm.G, List.lookup, Nat.reduceAdd, Nat.reduceBEq, Int.reduceBNe, Int.reduceBEq, Nat.reduceLeDiff, q38, e24, e0, e1, e12, e13]
            refine kept_intro ⟨l.length - (i + 1), by omega, _, le_mk [(0, .sl 4 (l.map dlAv)), (1, .sl 4 (l'.map dlAv)), (12, .v (.int .i64 l.length)), (13, .v (.int .i64 (i + 1 : Nat)))] ?_, i + 1, by omega, rfl, fun j hj hj2 => ?_, rfl⟩
            · simp only [List.forall_mem_cons, List.not_mem_nil, false_imp_iff, implies_true, and_true, hw, e24, e0, e1, e12, e13]
              try simp -dsimp only [Vm.G, List.lookup, Nat.reduceAdd, Nat.reduceBEq, Int.reduceBNe, Int.reduceBEq, Nat.reduceLeDiff, q38, hw, e24, e0, e1, e12, e13]
              repeat' first | exact Fg.refl _ | exact Fg.nil _ _ _ (by decide) | refine And.intro ?_ ?_
            · by_cases hji : j = i
              · subst hji; rw [hx, hy]; exact he
              · exact hb j hj (by omega)
      · have hge : ¬ i < l.length := by have := of_decide_eq_false hcc; omega
        have he : l = l' := List.ext_getElem hlen fun j h1 h2 => hb j h1 (by omega)
        simp -dsimp only [Vm.G, List.lookup, Nat.reduceAdd, Nat.reduceBEq, Int.reduceBNe, Int.reduceBEq, Nat.reduceLeDiff, q38]
        exact hq true ⟨fun _ => he, fun _ => rfl⟩
  · have c1 : ((l.length : Int) != l'.length) = true := by simp; omega
    simp -dsimp only [Vm.G, List.lookup, Nat.reduceAdd, Nat.reduceBEq, Int.reduceBNe, Int.reduceBEq, Nat.reduceLeDiff, q38, c1]
    exact hq false ⟨fun h => (by cases h), fun h => (hlen (by rw [h])).elim⟩
def da : Dc := ⟨0, 1, 2020, 0, 0⟩
def dla : List Dl := [⟨3, 5, 0, 0⟩]
theorem da_ok : da.ok := by simp [Dc.ok, da, I64]
theorem dla_ok : ∀ x ∈ dla, x.ok := by simp [dla, Dl.ok, I64]
set_option maxRecDepth 20000 in
set_option maxHeartbeats 2000000 in
theorem does_law30awake : Does Tryz.prog 35 trueSpec := by
  refine does_of_awp (good_cons does_vnewA (good_cons does_docsPut (good_cons does_docsGet (good_cons does_docsOpen (good_cons does_docsRight (good_cons does_docsAll (good_cons does_eqInt good_nil))))))) Tryz.func35 rfl (by decide +kernel) (by decide +kernel) ?_
  rintro args h Q ⟨rfl, hq⟩
  refine ⟨by simp [Tryz.f35], ?_⟩
  rw [awpFunc_some (by rfl)]
  simp -dsimp only [Vm.G, List.lookup, Nat.reduceAdd, Nat.reduceBEq, Int.reduceBNe, Int.reduceBEq, Nat.reduceLeDiff, q35]
  refine call_one (S := vnewASpec) rfl _ GaL.rfl ⟨rfl, fun V h0 hV => ?_⟩
  simp -dsimp only [Vm.G, List.lookup, Nat.reduceAdd, Nat.reduceBEq, Int.reduceBNe, Int.reduceBEq, Nat.reduceLeDiff, q35]
  refine bs_intro zr62 (by decide) (by decide) rfl rfl (by simp [solid, AV.cells]) ?_
  simp -dsimp only [Vm.G, List.lookup, Nat.reduceAdd, Nat.reduceBEq, Int.reduceBNe, Int.reduceBEq, Nat.reduceLeDiff, q35]
  refine call_one (S := docsPutSpec) rfl _ GaL.rfl ⟨V, noF, da, dla, da_ok, dla_ok, rfl, hV, fun h1 hV1 _ => ?_⟩
  rw [docs_put (d := da) (l := dla) (by decide) (by decide)] at hV1 ⊢
  simp only at hV1 ⊢
  simp -dsimp only [Vm.G, List.lookup, Nat.reduceAdd, Nat.reduceBEq, Int.reduceBNe, Int.reduceBEq, Nat.reduceLeDiff, q35]
  refine call_one (S := docsGetSpec) rfl _ GaL.rfl ⟨V, dF da dla, 1, rfl, hV1, fun d l hd hl6 hdl => ?_, fun hd => by rw [dF_at da_ok dla_ok (by decide) (by decide)] at hd; cases hd⟩
  rw [dF_at da_ok dla_ok (by decide) (by decide)] at hd
  cases hd
  have e1 : (dc1 da dla).lines = 1 := rfl
  have e2 : (dla.map dlAv).length = 1 := rfl
  have e3 : (dla.map dlAv)[(0 : Int).toNat]? = some (dlAv ⟨3, 5, 0, 0⟩) := rfl
  have k1 : (((1 : Nat) : Int) == 1) = true := rfl
  have ho : (openD ⟨3, 5, 0, 0⟩ == 5) = true := by decide
  have hr : rightD ⟨3, 5, 0, 0⟩ = true := by decide
  generalize hxs : dla.map dlAv = xs at e2 e3 ⊢
  simp only [dcCells, e1]
  simp -dsimp only [Vm.G, List.lookup, Nat.reduceAdd, Nat.reduceBEq, Int.reduceBNe, Int.reduceBEq, Nat.reduceLeDiff, q35]
  refine nil_pointer Tryz.underlying24 ?_
  simp -dsimp only [Vm.G, List.lookup, Nat.reduceAdd, Nat.reduceBEq, Int.reduceBNe, Int.reduceBEq, Nat.reduceLeDiff, q35, e2, k1]
  refine idxO_intro (by decide) (by rw [e2]; decide) ?_
  simp -dsimp only [Vm.G, List.lookup, Nat.reduceAdd, Nat.reduceBEq, Int.reduceBNe, Int.reduceBEq, Nat.reduceLeDiff, q35]
  refine eltA_intro e3 ?_
  simp only [dlAv, dlCells]
  simp -dsimp only [Vm.G, List.lookup, Nat.reduceAdd, Nat.reduceBEq, Int.reduceBNe, Int.reduceBEq, Nat.reduceLeDiff, q35, AV.cells, List.drop_zero]
  refine call_one (S := openDSpec) rfl _ GaL.rfl ⟨⟨3, 5, 0, 0⟩, rfl, ?_⟩
  simp -dsimp only [Vm.G, List.lookup, Nat.reduceAdd, Nat.reduceBEq, Int.reduceBNe, Int.reduceBEq, Nat.reduceLeDiff, q35, ho]
  refine idxO_intro (by decide) (by rw [e2]; decide) ?_
  simp -dsimp only [Vm.G, List.lookup, Nat.reduceAdd, Nat.reduceBEq, Int.reduceBNe, Int.reduceBEq, Nat.reduceLeDiff, q35]
  refine eltA_intro e3 ?_
  simp only [dlAv, dlCells]
  simp -dsimp only [Vm.G, List.lookup, Nat.reduceAdd, Nat.reduceBEq, Int.reduceBNe, Int.reduceBEq, Nat.reduceLeDiff, q35, AV.cells, List.drop_zero]
  refine call_one (S := rightDSpec) rfl _ GaL.rfl ⟨⟨3, 5, 0, 0⟩, rfl, ?_⟩
  rw [hr]
  simp -dsimp only [Vm.G, List.lookup, Nat.reduceAdd, Nat.reduceBEq, Int.reduceBNe, Int.reduceBEq, Nat.reduceLeDiff, q35]
  refine call_one (S := docsAllSpec) rfl _ GaL.rfl ⟨V, dF da dla, 2020, 1, rfl, hV1, by decide, fun kv h2 hsc _ hV2 _ => ?_⟩
  rw [hsc.same (dF_scan da dla), dF_all da_ok (by decide), if_pos ⟨rfl, rfl⟩]
  simp -dsimp only [Vm.G, List.lookup, Nat.reduceAdd, Nat.reduceBEq, Int.reduceBNe, Int.reduceBEq, Nat.reduceLeDiff, q35]
  refine bs_intro zr3 (by decide) (by decide) rfl rfl (by simp [solid, AV.cells]) ?_
  simp -dsimp only [Vm.G, List.lookup, Nat.reduceAdd, Nat.reduceBEq, Int.reduceBNe, Int.reduceBEq, Nat.reduceLeDiff, q35]
  refine call_one (S := eqIntSpec) rfl _ GaL.rfl ⟨[1], [1], by simp, rfl, ?_⟩
  simp -dsimp only [Vm.G, List.lookup, Nat.reduceAdd, Nat.reduceBEq, Int.reduceBNe, Int.reduceBEq, Nat.reduceLeDiff, q35]
  exact hq _
theorem putLines_n (id : Int) : ∀ (l : List Dl) (i : Nat) (f : Fun), (putLines id i l f).n = f.n + l.length
  | [], _, _ => rfl
  | x :: r, i, f => by
    show (putLines id (i + 1) r (upd f (dlK id i) (some (dlV x)))).n = _
    rw [putLines_n id r (i + 1)]
    show f.n + 1 + r.length = f.n + (r.length + 1)
    omega
theorem dF_n (d : Dc) (l : List Dl) : (dF d l).n = l.length + 2 := by
  show (putLines 1 0 l (upd noF (seqKey 2) (some (be 8 1)))).n + 1 = _
  rw [putLines_n]
  show 0 + 1 + l.length + 1 = _
  omega
def dbackSpec : Vm.Spec := fun args h Q => ∃ (d : Dc) (l : List Dl), d.ok ∧ (∀ x ∈ l, x.ok) ∧ l.length ≤ 9223372036854775807 ∧ args = [.agg (dcCells d), .sl 4 (l.map dlAv)] ∧ ∀ h', Q (.v (.bool true)) h'
set_option maxRecDepth 20000 in
set_option maxHeartbeats 4000000 in
theorem does_dback : Does Tryz.prog 6 dbackSpec := by
  refine does_of_awp (good_cons does_vnewA (good_cons does_docsPut (good_cons does_docsGet (good_cons does_eqDl (good_cons does_docsAll (good_cons does_hasInt (good_cons does_law30awake good_nil))))))) Tryz.func6 rfl (by decide +kernel) (by decide +kernel) ?_
  rintro args h Q ⟨d, l, hd, hl, hll, rfl, hq⟩
  refine ⟨by simp [Tryz.f6], ?_⟩
  rw [awpFunc_some (by rfl)]
  simp only [dcCells]
  simp -dsimp only [Vm.G, List.lookup, Nat.reduceAdd, Nat.reduceBEq, Int.reduceBNe, Int.reduceBEq, Nat.reduceLeDiff, q6]
  have hd1 := Bool.eq_false_or_eq_true (decide ((l.length : Int) < 1))
  rcases hd1 with c1 | c1
  · simp -dsimp only [Vm.G, List.lookup, Nat.reduceAdd, Nat.reduceBEq, Int.reduceBNe, Int.reduceBEq, Nat.reduceLeDiff, q6, c1]
    refine call_one (S := trueSpec) rfl _ GaL.rfl ⟨rfl, fun hz => ?_⟩
    simp -dsimp only [Vm.G, List.lookup, Nat.reduceAdd, Nat.reduceBEq, Int.reduceBNe, Int.reduceBEq, Nat.reduceLeDiff, q6]
    exact hq _
  · have d1 := of_decide_eq_false c1
    have hd6 := Bool.eq_false_or_eq_true (decide ((l.length : Int) > 6))
    rcases hd6 with c6 | c6
    · simp -dsimp only [Vm.G, List.lookup, Nat.reduceAdd, Nat.reduceBEq, Int.reduceBNe, Int.reduceBEq, Nat.reduceLeDiff, q6, c1, c6]
      refine call_one (S := trueSpec) rfl _ GaL.rfl ⟨rfl, fun hz => ?_⟩
      simp -dsimp only [Vm.G, List.lookup, Nat.reduceAdd, Nat.reduceBEq, Int.reduceBNe, Int.reduceBEq, Nat.reduceLeDiff, q6]
      exact hq _
    · have d6 := of_decide_eq_false c6
      have hda := dF_at (d := d) (l := l) hd hl (by omega) (by omega)
      simp -dsimp only [Vm.G, List.lookup, Nat.reduceAdd, Nat.reduceBEq, Int.reduceBNe, Int.reduceBEq, Nat.reduceLeDiff, q6, c1, c6]
      refine call_one (S := vnewASpec) rfl _ GaL.rfl ⟨rfl, fun V h0 hV => ?_⟩
      simp -dsimp only [Vm.G, List.lookup, Nat.reduceAdd, Nat.reduceBEq, Int.reduceBNe, Int.reduceBEq, Nat.reduceLeDiff, q6]
      refine call_one (S := docsPutSpec) rfl _ GaL.rfl ⟨V, noF, d, l, hd, hl, rfl, hV, fun h1 hV1 _ => ?_⟩
      rw [docs_put (d := d) (l := l) (by omega) (by omega)] at hV1 ⊢
      simp only at hV1 ⊢
      simp -dsimp only [Vm.G, List.lookup, Nat.reduceAdd, Nat.reduceBEq, Int.reduceBNe, Int.reduceBEq, Nat.reduceLeDiff, q6]
      refine call_one (S := docsGetSpec) rfl _ GaL.rfl ⟨V, dF d l, 1, rfl, hV1, fun d2 l2 hd2 hl6 hdl => ?_, fun hn => by rw [hda] at hn; cases hn⟩
      rw [hda] at hd2
      cases hd2
      simp only [dcCells, dc1]
      simp -dsimp only [Vm.G, List.lookup, Nat.reduceAdd, Nat.reduceBEq, Int.reduceBNe, Int.reduceBEq, Nat.reduceLeDiff, q6]
      refine eq_agg fd54 rfl ?_
      simp -dsimp only [Vm.G, List.lookup, Nat.reduceAdd, Nat.reduceBEq, Int.reduceBNe, Int.reduceBEq, Nat.reduceLeDiff, q6, Bool.true_and, Bool.and_self]
      refine call_one (S := eqSpecDl) rfl _ GaL.rfl ⟨l, l, by omega, rfl, fun b hb => ?_⟩
      have hb : b = true := hb.2 rfl
      subst hb
      simp -dsimp only [Vm.G, List.lookup, Nat.reduceAdd, Nat.reduceBEq, Int.reduceBNe, Int.reduceBEq, Nat.reduceLeDiff, q6]
      refine call_one (S := docsAllSpec) rfl _ GaL.rfl ⟨V, dF d l, d.year, d.kind, rfl, hV1, by rw [dF_n]; omega, fun kv h2 hsc _ hV2 _ => ?_⟩
      rw [hsc.same (dF_scan d l), dF_all hd (by omega), if_pos ⟨rfl, rfl⟩]
      simp -dsimp only [Vm.G, List.lookup, Nat.reduceAdd, Nat.reduceBEq, Int.reduceBNe, Int.reduceBEq, Nat.reduceLeDiff, q6]
      refine call_one (S := hasIntSpec) rfl _ GaL.rfl ⟨[1], 1, by simp, rfl, ?_⟩
      have hm : decide ((1 : Int) ∈ [(1 : Int)]) = true := by decide
      rw [hm]
      simp -dsimp only [Vm.G, List.lookup, Nat.reduceAdd, Nat.reduceBEq, Int.reduceBNe, Int.reduceBEq, Nat.reduceLeDiff, q6]
      refine call_one (S := docsAllSpec) rfl _ GaL.rfl ⟨V, dF d l, d.year, Go.bits .xor .i64 (-1) d.kind, rfl, hV2, by rw [dF_n]; omega, fun kv h3 hsc2 _ hV3 _ => ?_⟩
      rw [hsc2.same (dF_scan d l), dF_all hd (by omega), if_neg (show ¬ (d.year = d.year ∧ d.kind = Go.bits .xor .i64 (-1) d.kind) from fun hc => xor_ne hd.2.1 hc.2)]
      have k0 : (((0 : Nat) : Int) == 0) = true := rfl
      simp -dsimp only [Vm.G, List.lookup, Nat.reduceAdd, Nat.reduceBEq, Int.reduceBNe, Int.reduceBEq, Nat.reduceLeDiff, q6, k0, List.map_nil, List.length_nil]
      refine call_one (S := trueSpec) rfl _ GaL.rfl ⟨rfl, fun hz => ?_⟩
      simp -dsimp only [Vm.G, List.lookup, Nat.reduceAdd, Nat.reduceBEq, Int.reduceBNe, Int.reduceBEq, Nat.reduceLeDiff, q6]
      exact hq _
theorem isA_dc {y : AV} (h : IsA (.agg [.int .i64, .int .i64, .int .i64, .int .i64, .int .i64]) y) : ∃ x : Dc, x.ok ∧ y = .agg (dcCells x) := by
  simp only [IsA, IsAll] at h
  obtain ⟨ys, ⟨y1, r1, rfl, h1, y2, r2, rfl, h2, y3, r3, rfl, h3, y4, r4, rfl, h4, y5, r5, rfl, h5, rfl⟩, rfl⟩ := h
  obtain ⟨a1, k1, rfl⟩ := isA_int (by simpa only [IsA] using h1)
  obtain ⟨a2, k2, rfl⟩ := isA_int (by simpa only [IsA] using h2)
  obtain ⟨a3, k3, rfl⟩ := isA_int (by simpa only [IsA] using h3)
  obtain ⟨a4, k4, rfl⟩ := isA_int (by simpa only [IsA] using h4)
  obtain ⟨a5, k5, rfl⟩ := isA_int (by simpa only [IsA] using h5)
  exact ⟨⟨a1, a2, a3, a4, a5⟩, ⟨k1, k2, k3, k4, k5⟩, rfl⟩
theorem isA_dl {y : AV} (h : IsA (.agg [.int .i64, .int .i64, .int .i64, .int .i64]) y) : ∃ x : Dl, x.ok ∧ y = dlAv x := by
  simp only [IsA, IsAll] at h
  obtain ⟨ys, ⟨y1, r1, rfl, h1, y2, r2, rfl, h2, y3, r3, rfl, h3, y4, r4, rfl, h4, rfl⟩, rfl⟩ := h
  obtain ⟨a1, k1, rfl⟩ := isA_int (by simpa only [IsA] using h1)
  obtain ⟨a2, k2, rfl⟩ := isA_int (by simpa only [IsA] using h2)
  obtain ⟨a3, k3, rfl⟩ := isA_int (by simpa only [IsA] using h3)
  obtain ⟨a4, k4, rfl⟩ := isA_int (by simpa only [IsA] using h4)
  exact ⟨⟨a1, a2, a3, a4⟩, ⟨k1, k2, k3, k4⟩, rfl⟩
theorem dback_args {y0 y1 : AV} (i0 : IsA (.agg [.int .i64, .int .i64, .int .i64, .int .i64, .int .i64]) y0) (i1 : IsA (.sl (.agg [.int .i64, .int .i64, .int .i64, .int .i64])) y1) {Q : AV → Heap → Prop} (hq : ∀ h', Q (.v (.bool true)) h') : dbackSpec [y0, y1] [] Q := by
  obtain ⟨d, hd, rfl⟩ := isA_dc i0
  obtain ⟨l, hl, rfl, hok⟩ := isA_list _ dlAv (fun y hy => isA_dl hy) i1
  exact ⟨d, l, hd, hok, hl, rfl, hq⟩
end Go.Proofs.Lx
/- Encumbrances: plain laws and bounds. -/
set_option linter.unusedSimpArgs false
set_option linter.unusedVariables false
namespace Go.Proofs.Lx
open Go.Vm
attribute [local irreducible] awpArr awpBin awpMake awpAppend awpCvX awpStrOf awpBinX awpSlice awpBS awpStore awpAlloc awpCopy awpIndex awpDraw awpIdxX awpFa awpField awpLookup awpUpdate awpDelete awpClear awpRange awpNext awpEntry awpBuild awpClearS awpIdxL awpTree appB awpIdxO eltA treeA
theorem chargeRun_n (c : Chg) : ∀ (l : List Nd) (f : Fun) (w : Bool), (chargeRun c l f w).1.n ≤ f.n + l.length
  | [], f, w => Nat.le_refl _
  | n :: r, f, w => by
    unfold chargeRun
    split
    · exact Nat.le_add_right _ _
    · have := chargeRun_n c r (upd f (ndK (atOf c n).1) (some (ndV (atOf c n).1))) (w || (atOf c n).2.1)
      have e : (upd f (ndK (atOf c n).1) (some (ndV (atOf c n).1))).n = f.n + 1 := rfl
      rw [e] at this
      rw [List.length_cons]; omega
theorem chargeOf_n (f : Fun) (year id : Int) (c : Chg) : (chargeOf f year id c).1.n ≤ f.n + 8 := by
  unfold chargeOf
  split
  · exact Nat.le_add_right _ _
  · split
    · exact Nat.le_add_right _ _
    · have := chargeRun_n c (pathOf f year 8 id) f false
      have := pathOf_length f year 8 id
      omega
/-- Lines' nodes, charged: so much of each line. -/
def chargeG (mk : Dl → Chg) (year : Int) : List Dl → Fun → Bool → Fun × Bool × Int
  | [], f, w => (f, w, 0)
  | x :: r, f, w => if (chargeOf f year x.node (mk x)).2.2 ≠ 0 then ((chargeOf f year x.node (mk x)).1, false, (chargeOf f year x.node (mk x)).2.2)
    else chargeG mk year r (chargeOf f year x.node (mk x)).1 (w || (chargeOf f year x.node (mk x)).2.1)
theorem Dl.zero_ok : Dl.zero.ok := by simp [Dl.ok, Dl.zero, I64]
end Go.Proofs.Lx
/- Charges, and what nodes there are behind them: plain laws for CtrlHolds and EncNoMore. -/
set_option linter.unusedSimpArgs false
set_option linter.unusedVariables false
namespace Go.Proofs.Lx
open Go.Vm
attribute [local irreducible] awpArr awpBin awpMake awpAppend awpCvX awpStrOf awpBinX awpSlice awpBS awpStore awpAlloc awpCopy awpIndex awpDraw awpIdxX awpFa awpField awpLookup awpUpdate awpDelete awpClear awpRange awpNext awpEntry awpBuild awpClearS awpIdxL awpTree appB awpIdxO eltA treeA
theorem nodeOf_clamp {y i : Int} {v : List UInt8} {n : Nd} (h : nodeOf (keyOf 78 [y, i]) v = some n) : n.year = clampK y ∧ n.id = clampK i := by
  unfold nodeOf numsPair at h
  rw [splitOf_key 78 [y, i] (by simp)] at h
  simp only [List.map_cons, List.map_nil] at h
  split at h
  · cases h; exact ⟨rfl, rfl⟩
  · cases h
/-- What a node that is there tells of its key. -/
theorem nodeAt_some {f : Fun} {y i : Int} {n : Nd} (h : nodeAt f y i = some n) : n.year = y ∧ n.id = i ∧ InR y ∧ InR i ∧ ∃ v, f (ndK n) = some v ∧ nodeOf (ndK n) v = some n := by
  unfold nodeAt at h
  split at h
  · cases h
  · rename_i v hv
    split at h
    · rename_i m hm
      split at h
      · rename_i hc
        cases h
        obtain ⟨h1, h2⟩ := nodeOf_clamp hm
        have e : ndK n = keyOf 78 [y, i] := by unfold ndK ndKey; rw [hc.1, hc.2]
        have r1 := clampK_range y
        have r2 := clampK_range i
        rw [← h1, hc.1] at r1
        rw [← h2, hc.2] at r2
        exact ⟨hc.1, hc.2, r1, r2, v, by rw [e]; exact hv, by rw [e]; exact hm⟩
      · cases h
    · cases h
theorem pathOf_at (f : Fun) (y : Int) : ∀ (k : Nat) (i : Int), ∀ n ∈ pathOf f y k i, nodeAt f y n.id = some n
  | 0, i, n, hn => by simp [pathOf] at hn
  | k + 1, i, n, hn => by
    simp only [pathOf] at hn
    split at hn
    · cases hn
    · rename_i m hm
      rcases List.mem_cons.1 hn with rfl | hn
      · have := (nodeAt_some hm).2.1
        rw [this]; exact hm
      · split at hn
        · cases hn
        · exact pathOf_at f y k _ n hn
/-- A run that is done: what each key has, and what was so of each node. -/
theorem run_done (c : Chg) : ∀ (p : List Nd) (f : Fun) (w : Bool), (chargeRun c p f w).2.2 = 0 →
    (∀ n ∈ p, (atOf c n).2.2 = 0 ∧ ((atOf c n).2.1 = true → (chargeRun c p f w).2.1 = true)) ∧ (w = true → (chargeRun c p f w).2.1 = true) ∧
      ∀ k, (∃ n ∈ p, k = ndK n ∧ (chargeRun c p f w).1 k = some (ndV (addC c n))) ∨ ((∀ n ∈ p, k ≠ ndK n) ∧ (chargeRun c p f w).1 k = f k)
  | [], f, w, _ => ⟨by simp, fun h => h, fun k => .inr ⟨by simp, rfl⟩⟩
  | n :: r, f, w, h => by
    unfold chargeRun at h ⊢
    by_cases he : (atOf c n).2.2 ≠ 0
    · rw [if_pos he] at h
      exact absurd h he
    · rw [if_neg he] at h ⊢
      have he0 : (atOf c n).2.2 = 0 := by simpa using he
      have ha : (atOf c n).1 = addC c n := by
        revert he0
        unfold atOf
        repeat' split
        all_goals intro h9; first | rfl | (exfalso; simp at h9)
      obtain ⟨i1, i2, i3⟩ := run_done c r _ _ h
      rw [ha] at h i1 i2 i3 ⊢
      refine ⟨fun m hm => ?_, fun hw => i2 (by rw [hw]; rfl), fun k => ?_⟩
      · rcases List.mem_cons.1 hm with rfl | hm
        · exact ⟨he0, fun ht => i2 (by rw [ht]; cases w <;> rfl)⟩
        · exact i1 m hm
      · rcases i3 k with ⟨m, hm, e1, e2⟩ | ⟨e1, e2⟩
        · exact .inl ⟨m, List.mem_cons_of_mem _ hm, e1, e2⟩
        · by_cases hk : k = ndK n
          · refine .inl ⟨n, List.mem_cons_self .., hk, ?_⟩
            rw [e2, upd_app, if_pos]
            rw [hk]; rfl
          · refine .inr ⟨fun m hm => ?_, ?_⟩
            · rcases List.mem_cons.1 hm with rfl | hm
              · exact hk
              · exact e1 m hm
            · rw [e2, upd_app, if_neg]
              intro e; exact hk e
/-- How a node stands behind a charge that was done. -/
def ChgRel (c : Chg) (w : Bool) (n n' : Nd) : Prop := n' = n ∨ (n' = addC c n ∧ (atOf c n).2.2 = 0 ∧ ((atOf c n).2.1 = true → w = true))
inductive All2 (R : Nd → Nd → Prop) : List Nd → List Nd → Prop
  | nil : All2 R [] []
  | cons {a b : Nd} {l l' : List Nd} (h : R a b) (t : All2 R l l') : All2 R (a :: l) (b :: l')
theorem All2.len {R : Nd → Nd → Prop} : ∀ {l l' : List Nd}, All2 R l l' → l.length = l'.length
  | _, _, .nil => rfl
  | _, _, .cons _ t => by rw [List.length_cons, List.length_cons, t.len]
theorem All2.get {R : Nd → Nd → Prop} : ∀ {l l' : List Nd}, All2 R l l' → ∀ (i : Nat) (h1 : i < l.length) (h2 : i < l'.length), R l[i] l'[i]
  | _, _, .cons h _, 0, _, _ => h
  | _, _, .cons _ t, i + 1, h1, h2 => t.get i (by simpa using h1) (by simpa using h2)
theorem all_rel {Rel : Nd → Nd → Prop} {y : Int} {g : KV → KV} : ∀ (l : List KV), (∀ p ∈ l, (inYear y p = none ∧ inYear y (g p) = none) ∨ ∃ n n', inYear y p = some n ∧ inYear y (g p) = some n' ∧ Rel n n') → All2 Rel (allN y l) (allN y (l.map g))
  | [], _ => .nil
  | p :: l, h => by
    have ih := all_rel l fun q hq => h q (List.mem_cons_of_mem _ hq)
    show All2 Rel ((p :: l).filterMap (inYear y)) ((g p :: l.map g).filterMap (inYear y))
    rcases h p (List.mem_cons_self ..) with ⟨h1, h2⟩ | ⟨n, n', h1, h2, h3⟩
    · rw [List.filterMap_cons, List.filterMap_cons, h1, h2]; exact ih
    · rw [List.filterMap_cons, List.filterMap_cons, h1, h2]; exact .cons h3 ih
/-- What a scan tells behind a change of values alone. -/
theorem scan_map {f f' : Fun} {pre : List UInt8} {l : List KV} (h : ScanIs f pre l) (hd : ∀ k, (f' k).isSome = (f k).isSome) : ScanIs f' pre (l.map fun p => (p.1, (f' p.1).getD p.2)) := by
  refine ⟨?_, fun k v => ⟨fun hm => ?_, fun ⟨h1, h2⟩ => ?_⟩⟩
  · rw [List.pairwise_map]
    exact h.1
  · obtain ⟨p, hp, e⟩ := List.mem_map.1 hm
    cases e
    obtain ⟨g1, g2⟩ := (h.2 p.1 p.2).1 hp
    refine ⟨?_, g2⟩
    have := hd p.1
    rw [g1] at this
    cases hf : f' p.1 with
    | none => rw [hf] at this; cases this
    | some v => rfl
  · have := hd k
    rw [h1] at this
    cases hf : f k with
    | none => rw [hf] at this; cases this
    | some v0 =>
      refine List.mem_map.2 ⟨(k, v0), (h.2 k v0).2 ⟨hf, h2⟩, ?_⟩
      simp only [h1, Option.getD_some]
theorem addC_key (c : Chg) (n : Nd) : ndK (addC c n) = ndK n := rfl
theorem charge_rel {f : Fun} {y i : Int} {c : Chg} {l l' : List KV} (he : (chargeOf f y i c).2.2 = 0) (h : ScanIs f (keyOf 78 [y]) l) (h' : ScanIs (chargeOf f y i c).1 (keyOf 78 [y]) l') :
    chgRight c = true ∧ All2 (ChgRel c (chargeOf f y i c).2.1) (allN y l) (allN y l') := by
  have hat := pathOf_at f y 8 i
  have hok := pathOf_ok f y 8 i
  unfold chargeOf at he h' ⊢
  generalize pathOf f y 8 i = p at hat hok he h' ⊢
  by_cases h0 : p.length = 0
  · rw [if_pos h0] at he; simp at he
  · rw [if_neg h0] at he h' ⊢
    by_cases hr : chgRight c = false
    · rw [if_pos hr] at he; simp at he
    · rw [if_neg hr] at he h' ⊢
      obtain ⟨i1, -, i3⟩ := run_done c p f false he
      generalize chargeRun c p f false = q at he h' i1 i3 ⊢
      obtain ⟨f', w, e⟩ := q
      simp only at he h' i1 i3 ⊢
      refine ⟨by simpa using hr, ?_⟩
      have hkey : ∀ n ∈ p, ∃ v, f (ndK n) = some v ∧ nodeOf (ndK n) v = some n := fun n hn => (nodeAt_some (hat n hn)).2.2.2.2
      have hd : ∀ k, (f' k).isSome = (f k).isSome := fun k => by
        rcases i3 k with ⟨n, hn, rfl, e2⟩ | ⟨-, e2⟩
        · obtain ⟨v, hv, -⟩ := hkey n hn
          rw [e2, hv]; rfl
        · rw [e2]
      rw [h'.same (scan_map h hd)]
      refine all_rel l fun p0 hp0 => ?_
      obtain ⟨g1, g2⟩ := (h.2 p0.1 p0.2).1 hp0
      rcases i3 p0.1 with ⟨n, hn, e1, e2⟩ | ⟨-, e2⟩
      · obtain ⟨v, hv, hno⟩ := hkey n hn
        obtain ⟨a1, a2, a3, a4, -⟩ := nodeAt_some (hat n hn)
        rw [e1] at g1
        rw [g1] at hv
        cases hv
        refine .inr ⟨n, addC c n, ?_, ?_, .inr ⟨rfl, i1 n hn⟩⟩
        · unfold inYear
          rw [e1, hno]
          simp only
          rw [if_pos a1]
        · unfold inYear
          simp only [e2, Option.getD_some]
          rw [e1, ← addC_key c n, nodeOf_put (addC_ok c n (hok n hn)) (by show InR n.year; rw [a1]; exact a3) a4]
          simp only
          rw [if_pos (show (addC c n).year = y from a1)]
      · have eg : (p0.1, (f' p0.1).getD p0.2) = p0 := by rw [e2, g1]; rfl
        rw [eg]
        cases hi : inYear y p0 with
        | none => exact .inl ⟨rfl, rfl⟩
        | some n => exact .inr ⟨n, n, rfl, rfl, .inl rfl⟩
theorem figure_iff (n : Int) : figureP n = true ↔ 0 ≤ n ∧ n ≤ 1152921504606846976 := by simp [figureP]
theorem small_iff (n : Int) : smallP n = true ↔ -1152921504606846976 ≤ n ∧ n ≤ 1152921504606846976 := by simp [smallP]
theorem within_iff (n : Int) : withinP n = true ↔ -9007199254740992 ≤ n ∧ n ≤ 9007199254740992 := by simp [withinP]
theorem figs_iff (n : Nd) : figs n = true ↔ (0 ≤ n.pre ∧ n.pre ≤ 1152921504606846976) ∧ (0 ≤ n.enc ∧ n.enc ≤ 1152921504606846976) ∧ (0 ≤ n.exp ∧ n.exp ≤ 1152921504606846976) := by
  unfold figs
  rw [Bool.and_eq_true, Bool.and_eq_true, figure_iff, figure_iff, figure_iff, and_assoc]
theorem w64_id {n : Int} (h1 : -9223372036854775808 ≤ n) (h2 : n ≤ 9223372036854775807) : w64 n = n := wrap_i64 h1 h2
theorem used_figs {n : Nd} (h : figs n = true) : usedOf n = n.pre + n.enc + n.exp := by
  rw [figs_iff] at h
  unfold usedOf
  rw [w64_id (n := n.pre + n.enc) (by omega) (by omega), w64_id (by omega) (by omega)]
theorem chgRight_iff (c : Chg) : chgRight c = true ↔ (-9007199254740992 ≤ c.pre ∧ c.pre ≤ 9007199254740992) ∧ (-9007199254740992 ≤ c.enc ∧ c.enc ≤ 9007199254740992) ∧ (-9007199254740992 ≤ c.exp ∧ c.exp ≤ 9007199254740992) := by
  unfold chgRight
  rw [Bool.and_eq_true, Bool.and_eq_true, within_iff, within_iff, within_iff, and_assoc]
theorem sum_right {c : Chg} (h : chgRight c = true) : chgSum c = c.pre + c.enc + c.exp := by
  rw [chgRight_iff] at h
  unfold chgSum
  rw [w64_id (n := c.pre + c.enc) (by omega) (by omega), w64_id (by omega) (by omega)]
theorem addC_figs {c : Chg} {n : Nd} (hc : chgRight c = true) (hn : figs n = true) : (addC c n).pre = n.pre + c.pre ∧ (addC c n).enc = n.enc + c.enc ∧ (addC c n).exp = n.exp + c.exp := by
  rw [chgRight_iff] at hc
  rw [figs_iff] at hn
  refine ⟨?_, ?_, ?_⟩
  · exact w64_id (by omega) (by omega)
  · exact w64_id (by omega) (by omega)
  · exact w64_id (by omega) (by omega)
theorem at_done {c : Chg} {n : Nd} (h : (atOf c n).2.2 = 0) : figs n = true ∧ figs (addC c n) = true ∧ (allowsOf n (chgSum c)).1 = true ∧ (atOf c n).2.1 = (allowsOf n (chgSum c)).2 := by
  revert h
  unfold atOf
  by_cases h1 : figs n = false
  · rw [if_pos h1]; intro h; simp at h
  · rw [if_neg h1]
    by_cases h2 : figs (addC c n) = false
    · rw [if_pos h2]; intro h; simp at h
    · rw [if_neg h2]
      by_cases h3 : (allowsOf n (chgSum c)).1 = false
      · rw [if_pos h3]; intro h; simp at h
      · rw [if_neg h3]
        intro _
        exact ⟨by simpa using h1, by simpa using h2, by simpa using h3, rfl⟩
/-- A node that goes beyond its limit by a charge is not absolute, and there was a warning. -/
theorem beyond_warned {c : Chg} {w : Bool} {n n' : Nd} (hc : chgRight c = true) (h : ChgRel c w n n') (hb : usedOf n' > n'.limit) (hn : ¬ usedOf n > n.limit) : n'.abs = false ∧ w = true := by
  rcases h with rfl | ⟨rfl, h1, h2⟩
  · exact absurd hb hn
  · obtain ⟨f1, f2, f3, f4⟩ := at_done h1
    have u1 := used_figs f1
    have u2 := used_figs f2
    obtain ⟨a1, a2, a3⟩ := addC_figs hc f1
    rw [f4] at h2
    have hs := sum_right hc
    have hl : (addC c n).limit = n.limit := rfl
    rw [hl] at hb
    rw [a1, a2, a3] at u2
    rw [figs_iff] at f1
    rw [chgRight_iff] at hc
    unfold allowsOf at f3 h2
    rw [hs] at f3 h2
    split at f3
    · simp at f3
    · rename_i c1
      rw [if_neg c1] at h2
      split at f3
      · rename_i c2
        have c1' : ¬ (c.pre + c.enc + c.exp > 1152921504606846976) ∧ (smallP (usedOf n) = true ∧ smallP n.limit = true) := by
          refine ⟨fun h => c1 (.inl h), ?_⟩
          exact Classical.byContradiction fun h => c1 (.inr h)
        obtain ⟨-, c3, c4⟩ := c1'
        rw [small_iff] at c3 c4
        rcases c2 with c2 | c2
        · omega
        · rw [w64_id (by omega) (by omega)] at c2
          omega
      · rename_i c2
        rw [if_neg c2] at h2
        have ha : n.abs = false := by simpa using f3
        exact ⟨ha, h2 (by rw [ha]; rfl)⟩
end Go.Proofs.Lx
/- A view committed, or forgotten: what lies beneath it. -/
set_option linter.unusedSimpArgs false
set_option linter.unusedVariables false
namespace Go.Proofs.Lx
open Go.Vm
attribute [local irreducible] awpArr awpBin awpMake awpAppend awpCvX awpStrOf awpBinX awpSlice awpBS awpStore awpAlloc awpCopy awpIndex awpDraw awpIdxX awpFa awpField awpLookup awpUpdate awpDelete awpClear awpRange awpNext awpEntry awpBuild awpClearS awpIdxL awpTree appB awpIdxO eltA treeA
def memOf (mem : List Ent) (k : List UInt8) : Option (List UInt8) := (mget (strK k) mem).map fun e => bytesOf e.val
/-- What lies beneath a view in memory; beneath the reference's. -/
def memV (h : Heap) (V : VId) (g : Fun) : Prop := ∃ mem clk, h[V.im]? = some (.map mem clk) ∧ (∀ k, g k = memOf mem k) ∧ mem.length ≤ g.n
def wasR (h : Heap) (R : RId) (g : Fun) : Prop := ∃ lw : List KV, h[R.iw]? = some (tabObj lw) ∧ TabIs g lw ∧ lw.length ≤ g.n ∧ ∀ p ∈ lw, p.1.length ≤ 32 ∧ p.2.length ≤ 120
theorem memV.same {h h' : Heap} {V : VId} {g : Fun} {fp : List Nat} (hm : memV h V g) (hs : Same h h' fp) (hd : V.im ∉ fp) : memV h' V g := by
  obtain ⟨mem, clk, h1, h2⟩ := hm
  exact ⟨mem, clk, hs.get h1 hd, h2⟩
theorem wasR.same {h h' : Heap} {R : RId} {g : Fun} {fp : List Nat} (hw : wasR h R g) (hs : Same h h' fp) (hd : R.iw ∉ fp) : wasR h' R g := by
  obtain ⟨lw, h1, h2⟩ := hw
  exact ⟨lw, hs.get h1 hd, h2⟩
theorem isView.ne {h : Heap} {V : VId} {f : Fun} (hV : isView h V f) : V.iv ≠ V.ic ∧ V.iv ≠ V.im ∧ V.ic ≠ V.im := by
  obtain ⟨_, _, _, _, _, _, _, h4, _⟩ := hV
  exact h4
theorem isRef.ne {h : Heap} {R : RId} {f : Fun} (hR : isRef h R f) : R.iw ≠ R.inn ∧ R.iw ≠ R.it := by
  obtain ⟨_, _, _, _, _, _, _, h5, _⟩ := hR
  exact h5.2.2.2
theorem mdel_sub (k : Value) : ∀ es : List Ent, (mdel k es).Sublist es
  | [] => .slnil
  | e :: es => by
    unfold mdel
    split
    · exact List.sublist_cons_self ..
    · exact (mdel_sub k es).cons_cons e
theorem mget_cons (k : List UInt8) (e : Ent) (es : List Ent) {a : List UInt8} (he : e.key = strK a) : mget (strK k) (e :: es) = if k = a then some e else mget (strK k) es := by
  unfold mget
  rw [List.find?_cons, he, keyEq_str]
  by_cases h : k = a
  · rw [if_pos h, h]; simp
  · have : (k == a) = false := by simpa using h
    rw [if_neg h, this]
theorem mget_mdel (q k : List UInt8) : ∀ {es : List Ent}, (∀ e ∈ es, ∃ k, e.key = strK k) → (es.map kOf).Nodup → mget (strK k) (mdel (strK q) es) = if k = q then none else mget (strK k) es
  | [], _, _ => by simp [mdel, mget]
  | e :: es, hk, hn => by
    obtain ⟨a, ha⟩ := hk e (List.mem_cons_self ..)
    have hk' : ∀ e ∈ es, ∃ k, e.key = strK k := fun e he => hk e (List.mem_cons_of_mem _ he)
    rw [List.map_cons, List.nodup_cons] at hn
    rw [kOf_eq ha] at hn
    unfold mdel
    rw [ha, keyEq_str]
    by_cases hq : q = a
    · subst hq
      simp only [beq_self_eq_true, if_true]
      rw [mget_cons k e es ha]
      by_cases hkq : k = q
      · rw [if_pos hkq, hkq]
        cases hg : mget (strK q) es with
        | none => rfl
        | some x => exact absurd ((mget_some hk' hn.2).1 (by rw [hg]; rfl)) hn.1
      · rw [if_neg hkq, if_neg hkq]
    · have h2 : (q == a) = false := by simpa using hq
      simp only [h2, Bool.false_eq_true, if_false]
      rw [mget_cons k e _ ha, mget_cons k e es ha, mget_mdel q k hk' hn.2]
      by_cases hka : k = a
      · have : ¬ k = q := fun e => hq (e ▸ hka)
        rw [if_pos hka, if_neg this, if_pos hka]
      · rw [if_neg hka, if_neg hka]
theorem Born.del {q : Value} {c : Nat} {es : List Ent} (h : Born es c) : Born (mdel q es) c :=
  ⟨⟨h.1.1.sublist ((mdel_sub q es).map _), h.1.2.sublist ((mdel_sub q es).map _)⟩, fun e he => h.2 e ((mdel_sub q es).mem he)⟩
/-- Changes 'done' came about over 'mem0'. -/
structure Kept (mem0 done mem : List Ent) (clk : Nat) : Prop where
  wf : ∀ e ∈ mem, WfM e
  born : Born mem clk
  len : mem.length ≤ mem0.length + done.length
  short : ∀ e ∈ mem, (kOf e).length ≤ 32
  now : ∀ k, memOf mem k = nowOf done mem0 k
theorem nowOf_snoc {done mem0 : List Ent} {e : Ent} {q : List UInt8} (hq : e.key = strK q) (hk : ∀ e ∈ done, ∃ k, e.key = strK k) (hn : ((done ++ [e]).map kOf).Nodup) (k : List UInt8) :
    nowOf (done ++ [e]) mem0 k = if k = q then shapeOf e.val else nowOf done mem0 k := by
  have h1 : mget (strK k) (done ++ [e]) = (mget (strK k) done).or (mget (strK k) [e]) := by unfold mget; rw [List.find?_append]
  have h2 := mget_cons k e [] hq
  rw [List.map_append, List.nodup_append] at hn
  have hqd : q ∉ done.map kOf := fun hm => hn.2.2 q hm q (by simp [kOf_eq hq]) rfl
  unfold nowOf
  rw [h1, h2]
  by_cases hkq : k = q
  · subst hkq
    have : mget (strK k) done = none := by
      cases hg : mget (strK k) done with
      | none => rfl
      | some x => exact absurd ((mget_some hk hn.1).1 (by rw [hg]; rfl)) hqd
    rw [this]; simp
  · rw [if_neg hkq, if_neg hkq]
    have : mget (strK k) ([] : List Ent) = none := rfl
    rw [this, Option.or_none]
theorem Kept.del {mem0 done mem : List Ent} {clk : Nat} (h : Kept mem0 done mem clk) {e : Ent} {q : List UInt8} (hq : e.key = strK q) (hs : shapeOf e.val = none) (hk : ∀ e ∈ done, ∃ k, e.key = strK k) (hn : ((done ++ [e]).map kOf).Nodup) :
    Kept mem0 (done ++ [e]) (mdel (strK q) mem) clk := by
  refine ⟨fun x hx => h.wf x ((mdel_sub _ _).mem hx), h.born.del, ?_, fun x hx => h.short x ((mdel_sub _ _).mem hx), fun k => ?_⟩
  · have := (mdel_sub (strK q) mem).length_le
    have := h.len
    rw [List.length_append]; omega
  · rw [nowOf_snoc hq hk hn k, hs, ← h.now k]
    unfold memOf
    rw [mget_mdel q k (fun e he => (h.wf e he).1) h.born.1.2]
    split <;> rfl
theorem Kept.put {mem0 done mem : List Ent} {clk : Nat} (h : Kept mem0 done mem clk) {e : Ent} {q l : List UInt8} {x : AV} (hq : e.key = strK q) (hs : shapeOf e.val = some l) (hx : isB x l) (hl : l.length ≤ 120) (hq32 : q.length ≤ 32) (hk : ∀ e ∈ done, ∃ k, e.key = strK k) (hn : ((done ++ [e]).map kOf).Nodup) :
    Kept mem0 (done ++ [e]) (mput (strK q) x clk mem) (mclk (strK q) mem clk) := by
  have hkm : ∀ e ∈ mem, ∃ k, e.key = strK k := fun e he => (h.wf e he).1
  refine ⟨fun y hy => ?_, h.born.put hkm, ?_, fun y hy => ?_, fun k => ?_⟩
  · rcases mput_mem hy with hy | ⟨h1, h2⟩
    · exact h.wf y hy
    · exact ⟨⟨q, h1⟩, l, by rw [h2]; exact hx, hl⟩
  · have := mput_length (k := strK q) (v := x) (c := clk) mem
    have := h.len
    rw [List.length_append]
    simp only [List.length_cons, List.length_nil]
    omega
  · rcases mput_mem hy with hy | ⟨h1, h2⟩
    · exact h.short y hy
    · rw [kOf_eq h1]; exact hq32
  · rw [nowOf_snoc hq hk hn k, hs, ← h.now k]
    unfold memOf
    have hg := mget_mput (v := x) (c := clk) q k hkm
    have e1 : ∀ o : Option Ent, (o.map fun e => bytesOf e.val) = (o.map Ent.val).map bytesOf := fun o => by cases o <;> rfl
    rw [e1, hg]
    by_cases hkq : k = q
    · rw [if_pos hkq, if_pos hkq, Option.map_some, bytesOf_isB hx]
    · rw [if_neg hkq, if_neg hkq, ← e1]
theorem nowOf_perm {a b mem : List Ent} (h : a.Perm b) (hk : ∀ e ∈ a, ∃ k, e.key = strK k) (hn : (a.map kOf).Nodup) (k : List UInt8) : nowOf a mem k = nowOf b mem k := by
  have hk2 : ∀ e ∈ b, ∃ k, e.key = strK k := fun e he => hk e (h.mem_iff.2 he)
  have hn2 : (b.map kOf).Nodup := ((h.map kOf).nodup_iff).1 hn
  have : mget (strK k) a = mget (strK k) b := by
    cases hg : mget (strK k) b with
    | some e =>
      obtain ⟨h1, h2⟩ := (mget_iff hk2 hn2).1 hg
      exact (mget_iff hk hn).2 ⟨h.mem_iff.2 h1, h2⟩
    | none =>
      cases hg2 : mget (strK k) a with
      | none => rfl
      | some e =>
        obtain ⟨h1, h2⟩ := (mget_iff hk hn).1 hg2
        have := (mget_iff hk2 hn2).2 ⟨h.mem_iff.1 h1, h2⟩
        rw [hg] at this; cases this
  unfold nowOf
  rw [this]
end Go.Proofs.Lx
/- Strings and numbers sorted, in place: by the kit's laws on Go's own sort. -/
set_option linter.unusedSimpArgs false
set_option linter.unusedVariables false
namespace Go.Proofs.Lx
open Go.Vm Go.RowKit
/-- The world behind a sort of one-cell elements. -/
theorem putRow_heap {α : Type} [Inhabited α] (enc : α → Value) (w : World) (b n : Nat) (d : Array α) (os : Array Obj) :
    (∀ k, k < w.heap.size → k ≠ b → (Sort.grow (Sort.putRow enc (Sort.ahead w n) b 0 d) os).heap[k]? = w.heap[k]?) ∧ w.heap.size ≤ (Sort.grow (Sort.putRow enc (Sort.ahead w n) b 0 d) os).heap.size ∧
      ∀ vs e fr, w.heap[b]? = some (.cells vs e fr) → (Sort.grow (Sort.putRow enc (Sort.ahead w n) b 0 d) os).heap[b]? = some (.cells (Sort.putCells enc 0 d vs) e fr) := by
  have hs : (Sort.putRow enc (Sort.ahead w n) b 0 d).heap.size = w.heap.size := by simp [Sort.putRow, Sort.mapBlock, Sort.ahead]
  have hg : ∀ k, k < w.heap.size → (Sort.grow (Sort.putRow enc (Sort.ahead w n) b 0 d) os).heap[k]? = (w.heap.modify b (Sort.onCells (Sort.putCells enc 0 d)))[k]? := fun k hk => by
    show ((Sort.putRow enc (Sort.ahead w n) b 0 d).heap ++ os)[k]? = _
    rw [Array.getElem?_append_left (by rw [hs]; exact hk)]; rfl
  refine ⟨fun k hk hne => ?_, ?_, fun vs e fr hb => ?_⟩
  · rw [hg k hk, Array.getElem?_modify, if_neg (fun e => hne e.symm)]
  · show w.heap.size ≤ ((Sort.putRow enc (Sort.ahead w n) b 0 d).heap ++ os).size
    rw [Array.size_append, hs]; omega
  · rw [hg b (lt_of_heap hb), Array.getElem?_modify, if_pos rfl, hb]; rfl
def vAv {α : Type} (enc : α → Value) (x : α) : AV := .v (enc x)
theorem flat_v {α : Type} (enc : α → Value) (l : List α) : flat (l.map (vAv enc)) = l.map (vAv enc) := by
  unfold flat
  induction l with
  | nil => rfl
  | cons x r ih => rw [List.map_cons, List.flatMap_cons, ih]; rfl
def sortVSpec {α : Type} (enc : α → Value) (R : List α → Prop) : Vm.Spec := fun args h Q => ∃ (l : List α) (h0 : Heap) (c e : Nat), args = [.osl h0.length 0 l.length c] ∧ h = h0 ++ [.row e (c * 1) (flat (l.map (vAv enc)))] ∧ l.length < 4611686018427387904 ∧ l.length ≤ c ∧
  ∀ l' : List α, l'.Perm l → R l' → Q (.tup []) (h0 ++ [.row e (c * 1) (flat (l'.map (vAv enc)))])
theorem does_sortV {α : Type} [Inhabited α] {f : FuncId} {R : List α → Prop} (enc : α → Value) (hp : ∀ x, plain (enc x) = true) (h1 : ∀ x, (enc x).oneCell' = true) (hcall : Callable Tryz.prog f)
    (key : ∀ (blk cap : Nat) (l : List α) (w : World), Sort.Holds enc w blk 0 l.toArray → blk < w.heap.size → l.length < 4611686018427387904 →
      Calls Tryz.prog f #[.slice (some ⟨blk, 0, none⟩) l.length cap] w fun e w' => e = .returned (.tuple #[]) ∧ ∃ (n : Nat) (os : Array Obj) (l' : List α), (l'.Perm l ∧ R l') ∧ w' = Sort.grow (Sort.putRow enc (Sort.ahead w n) blk 0 l'.toArray) os) :
    Does Tryz.prog f (sortVSpec enc R) := by
  refine ⟨hcall, ?_⟩
  rintro args h Q ⟨l, h0, c, e, rfl, rfl, hln, hlc, hq⟩ w g vs hvs hrep hh hfr hlaid
  have hm : h0.length < g.n := by rw [← hh.n]; simp
  generalize hb : g.loc h0.length = b
  have hrow : RowE w g e (c * 1) (flat (l.map (vAv enc))) b := by
    have : ObjRep w g (.row e (c * 1) (flat (l.map (vAv enc)))) (g.loc h0.length) := hh.obj h0.length _ (heap_last _ _)
    rw [hb] at this; exact this
  have hblt : b < w.heap.size := by rw [← hb]; exact hh.lt _ hm
  have hv0 : vs.getD 0 undef = .slice (some ⟨b, 0, none⟩) l.length c := by
    have := hrep 0 _ rfl
    generalize vs.getD 0 undef = v at this
    cases this with | osl => rw [hb]
  have hvs2 : vs = #[.slice (some ⟨b, 0, none⟩) l.length c] := by
    have h2 : vs.size = 1 := hvs
    apply Array.ext
    · simpa using h2
    · intro i hi1 hi2
      have : i = 0 := by omega
      subst this
      simpa [Array.getD, h2] using hv0
  subst hvs2
  obtain ⟨cur, a1, a2, a3, a4, a5, a6⟩ := hrow
  have hfl : (flat (l.map (vAv enc))).length = l.length := by rw [flat_v, List.length_map]
  have hcur : ∀ j (hj : j < l.length), cur.getD j undef = enc l[j] := fun j hj => by
    have := a6 j (vAv enc l[j]) (by rw [flat_v, List.getElem?_map, List.getElem?_eq_getElem hj]; rfl)
    exact (rep_v this).1
  have hH : Sort.Holds enc w b 0 l.toArray := fun j hj => by
    have hj : j < l.length := by simpa using hj
    have hjc : j < cur.size := by omega
    rw [Nat.zero_add]
    refine ⟨?_, ?_⟩
    · rw [cell_of_row w b j cur e (0, 0) a1]
      have := hcur j hj
      have e2 : (l.toArray)[j]! = l[j] := by rw [getElem!_pos l.toArray j (by simpa using hj)]; simp
      rw [e2, ← this]
      simp [Array.getD, hjc]
    · simp [World.frozen?, a1]
  refine (key b c l w hH hblt hln).mono ?_
  rintro e' w' ⟨rfl, n, os, l', ⟨hperm, hR⟩, rfl⟩
  obtain ⟨q1, q2, q3⟩ := putRow_heap enc w b n l'.toArray os
  have hlen : l'.length = l.length := hperm.length_eq
  generalize hW : Sort.grow (Sort.putRow enc (Sort.ahead w n) b 0 l'.toArray) os = w' at q1 q2 q3
  have hos : w'.os = w.os ∧ w'.tape = w.tape ∧ w'.output = w.output := by rw [← hW]; exact ⟨rfl, rfl, rfl⟩
  have hk : Keeps w g w' g := ⟨fun _ => Nat.le_refl _, fun k j v hj hv => by
    have hkb : k ≠ b := fun e => by rw [e, a4] at hj; omega
    have hkl : k < w.heap.size := by
      rcases Nat.lt_or_ge k w.heap.size with h | h
      · exact h
      · rw [hfr k h] at hj; omega
    rw [World.cell?_of_block (a := ⟨k, j, none⟩) (q1 k hkl hkb)]; exact hv, Nat.le_refl _, fun _ _ => rfl⟩
  have hrow' : RowE w' g e (c * 1) (flat (l'.map (vAv enc))) b := by
    have hnew : ∀ j (hj : j < l'.length), (Sort.putCells enc 0 l'.toArray cur).getD j undef = enc l'[j] := fun j hj => by
      have hjc : j < cur.size := by omega
      have e2 : (l'.toArray)[j]! = l'[j] := by rw [getElem!_pos l'.toArray j (by simpa using hj)]; simp
      rw [← e2]
      simp only [Sort.putCells]
      simp [Array.getD, hjc, hj]
    refine ⟨_, q3 cur e (0, 0) a1, by simp [Sort.putCells, a2], by rw [flat_v, List.length_map]; omega, a4, fun j hj => ?_, fun j u hu => ?_⟩
    · rw [flat_v, List.length_map] at hj
      rw [hnew j hj]; exact h1 _
    · rw [flat_v, List.getElem?_map] at hu
      have hj : j < l'.length := by
        rcases Nat.lt_or_ge j l'.length with h | h
        · exact h
        · rw [List.getElem?_eq_none h] at hu; cases hu
      rw [List.getElem?_eq_getElem hj] at hu
      cases hu
      rw [hnew j hj]
      exact .v (hp _)
  refine ⟨.tup [], h0 ++ [.row e (c * 1) (flat (l'.map (vAv enc)))], g, .tuple #[], hq l' hperm hR, rfl, .tup rfl (fun j u hu => by simp at hu), ?_, ?_, Nat.le_refl _, fun _ _ => rfl, fun _ _ => rfl, fun i hi h1 => by omega, fun k hk' => hfr k (Nat.le_trans q2 hk')⟩
  · refine ⟨by rw [← hh.n]; simp, fun i hi => Nat.lt_of_lt_of_le (hh.lt i hi) q2, hh.inj, fun i o ho => ?_⟩
    rcases Nat.lt_or_ge i h0.length with hi | hi
    · rw [List.getElem?_append_left hi] at ho
      have hig : i < g.n := by omega
      have hne : g.loc i ≠ b := fun e => by
        have := hh.inj i h0.length hig hm (e.trans hb.symm)
        omega
      exact (hh.obj i o (by rw [List.getElem?_append_left hi]; exact ho)).keepAt hk ⟨q1 _ (hh.lt i hig) hne, rfl⟩
    · have hie : i = h0.length := by
        rcases Nat.lt_or_ge i (h0.length + 1) with h | h
        · omega
        · rw [List.getElem?_eq_none (by simp; omega)] at ho; cases ho
      subst hie
      rw [heap_last] at ho
      cases ho
      show RowE _ _ _ _ _ (g.loc h0.length)
      rw [hb]; exact hrow'
  · exact ⟨hos.1, hos.2.1, hos.2.2, q2, fun k hk' hno => q1 k hk' fun e => hno _ hm (hb.trans e.symm)⟩
def sortVNil : Vm.Spec := fun args h Q => args = [.v (.slice none 0 0)] ∧ Q (.tup []) h
theorem does_sortVNil {f : FuncId} (hcall : Callable Tryz.prog f) (key : ∀ w : World, Calls Tryz.prog f #[.slice none 0 0] w fun e w' => e = .returned (.tuple #[]) ∧ w' = w) : Does Tryz.prog f sortVNil := by
  refine ⟨hcall, ?_⟩
  rintro args h Q ⟨rfl, hq⟩ w g vs hvs hrep hh hfr hlaid
  have hv0 : vs.getD 0 undef = .slice none 0 0 := (rep_v (hrep 0 _ rfl)).1
  have hvs2 : vs = #[.slice none 0 0] := by
    have h2 : vs.size = 1 := hvs
    apply Array.ext
    · simpa using h2
    · intro i hi1 hi2
      have : i = 0 := by omega
      subst this
      simpa [Array.getD, h2] using hv0
  rw [hvs2]
  refine (key w).mono ?_
  rintro e' w' ⟨rfl, rfl⟩
  exact ⟨.tup [], h, g, .tuple #[], hq, rfl, .tup rfl (fun j u hu => by simp at hu), hh, ⟨rfl, rfl, rfl, Nat.le_refl _, fun _ _ _ => rfl⟩, Nat.le_refl _, fun _ _ => rfl, fun _ _ => rfl, fun i hi h1 => by omega, hfr⟩
theorem does_sortS : Does Tryz.prog 252 (orS (sortVSpec strK fun _ => True) sortVNil) :=
  have hc : Callable Tryz.prog 252 := ⟨Tryz.f252, Tryz.func252, by kernel_rfl, by decide +kernel⟩
  does_or (does_sortV strK (fun _ => rfl) (fun _ => rfl) hc fun blk cap l w hH hb hl => (Any.slices_Sort_string Tryz.sortStr blk 0 cap l w hH hb hl).mono fun e w' ⟨h1, n, os, h2⟩ => ⟨h1, n, os, _, ⟨List.mergeSort_perm .., trivial⟩, h2⟩)
    (does_sortVNil hc fun w => Any.slices_Sort_string_none Tryz.sortStr none 0 w)
end Go.Proofs.Lx
/- A view's changes; what is committed, what is forgotten: the walks. -/
set_option linter.unusedSimpArgs false
set_option linter.unusedVariables false
namespace Go.Proofs.Lx
open Go.Vm
attribute [local irreducible] awpArr awpBin awpMake awpAppend awpCvX awpStrOf awpBinX awpSlice awpBS awpStore awpAlloc awpCopy awpIndex awpDraw awpIdxX awpFa awpField awpLookup awpUpdate awpDelete awpClear awpRange awpNext awpEntry awpBuild awpClearS awpIdxL awpTree appB awpIdxO eltA treeA
def keysSpec : Vm.Spec := fun args h Q => ∃ (ic : Nat) (chg : List Ent) (clk : Nat), args = [.mp ic] ∧ h[ic]? = some (.map chg clk) ∧ (∀ e ∈ chg, WfC e) ∧ Born chg clk ∧ chg.length ≤ 1073741824 ∧ (∀ e ∈ chg, (kOf e).length ≤ 32) ∧
  ∀ l : List (List UInt8), l.length ≤ chg.length → (∀ k ∈ l, k.length ≤ 32) → Q (.own true 9 1 (l.map (vAv strK))) h
set_option maxRecDepth 20000 in
set_option maxHeartbeats 1000000 in
theorem does_keys : Does Tryz.prog 219 keysSpec := by
  refine does_of_awp (good_cons does_sortS good_nil) Tryz.func219 rfl (by decide +kernel) (by decide +kernel) ?_
  rintro args h Q ⟨ic, chg, clk, rfl, g0, hw, hb, hn, hk32, hq⟩
  refine ⟨by simp [Tryz.f219], ?_⟩
  rw [awpFunc_some (by rfl)]
  simp -dsimp only [Vm.G, List.lookup, Nat.reduceAdd, Nat.reduceBEq, Int.reduceBNe, Int.reduceBEq, Nat.reduceLeDiff, q219]
  refine range_intro mt126 chg clk g0 ?_
  simp -dsimp only [Vm.G, List.lookup, Nat.reduceAdd, Nat.reduceBEq, Int.reduceBNe, Int.reduceBEq, Nat.reduceLeDiff, q219]
  refine awp_loop (fun m s h' => ∃ done : List Ent, m = (leftE chg (done.map (·.born))).length ∧ done.length + m ≤ chg.length ∧ h' = h ∧ (∀ d ∈ done, d ∈ chg) ∧ (done.map (·.born)).Nodup ∧ s = mk [(3, .own true 9 1 (((done).map kOf).map (vAv strK))), (6, .iter ic clk ((done).map (·.born)) clk)])
    chg.length _ (le_mk _ ?_) ⟨[], (congrArg List.length (List.filter_eq_self.2 fun _ _ => rfl)).symm, by simp, rfl, by simp, by simp, rfl⟩ ?_
  · simp only [List.forall_mem_cons, List.not_mem_nil, false_imp_iff, implies_true, and_true]
    try simp -dsimp only [Vm.G, List.lookup, Nat.reduceAdd, Nat.reduceBEq, Int.reduceBNe, Int.reduceBEq, Nat.reduceLeDiff, q219]
    repeat' first | exact Fg.refl _ | exact Fg.nil _ _ _ (by decide) | refine And.intro ?_ ?_
  · rintro m s h' ⟨done, rfl, hlen, rfl, hd, hdn, rfl⟩
    simp -dsimp only [Vm.G, List.lookup, Nat.reduceAdd, Nat.reduceBEq, Int.reduceBNe, Int.reduceBEq, Nat.reduceLeDiff, q219]
    refine next_intro chg clk g0 (fun e he => hb.2 e he) (Nat.le_refl _) (fun hlf => ?_) (fun e he => ?_)
    · have hD : done.Perm chg := seen_all hb.1.1 hd hdn hlf
      have hdl := hD.length_eq
      simp -dsimp only [Vm.G, List.lookup, Nat.reduceAdd, Nat.reduceBEq, Int.reduceBNe, Int.reduceBEq, Nat.reduceLeDiff, q219]
      refine call_in _ _ _ ?_
      simp -dsimp only [Vm.G, List.lookup, Nat.reduceAdd, Nat.reduceBEq, Int.reduceBNe, Int.reduceBEq, Nat.reduceLeDiff, q219, callI_eq, ownSl_own, ownSl_alias]
      refine callI_tup (S := orS (sortVSpec strK fun _ => True) sortVNil) (fun xs' => ∃ l' : List (List UInt8), xs' = l'.map (vAv strK) ∧ l'.Perm (done.map kOf)) rfl
        (fun xs' hx => ?_) (fun hx => ⟨?_, fun Q' hq' => .inr ⟨rfl, hq'⟩⟩) (fun c hc Q' hq' => .inl ⟨done.map kOf, _, c, 9, by rw [List.length_map], rfl, by rw [List.length_map]; omega, by rw [List.length_map] at hc; exact hc, fun l' hp _ => hq' _ _ ⟨l', rfl, hp⟩ ?_⟩) (fun xs' hx => ?_)
      · obtain ⟨l', rfl, hp⟩ := hx
        exact ⟨fun x hx => (hp.map _).mem_iff.1 hx, by rw [List.length_map, List.length_map, hp.length_eq]⟩
      · have hnil : done.map kOf = [] := List.map_eq_nil_iff.1 hx
        exact ⟨[], rfl, by rw [hnil]⟩
      · rw [List.take_of_length_le]
        rw [flat_v, List.length_map, Nat.mul_one]
        exact Nat.le_refl _
      · obtain ⟨l', rfl, hp⟩ := hx
        have hll := hp.length_eq
        rw [List.length_map] at hll
        have hks : ∀ k ∈ l', k.length ≤ 32 := fun k hk => by
          obtain ⟨e, he, rfl⟩ := List.mem_map.1 (hp.mem_iff.1 hk)
          exact hk32 e (hd e he)
        simp -dsimp only [Vm.G, List.lookup, Nat.reduceAdd, Nat.reduceBEq, Int.reduceBNe, Int.reduceBEq, Nat.reduceLeDiff, q219]
        exact hq l' (by omega) hks
    · obtain ⟨hem, heb⟩ := left_mem he
      obtain ⟨⟨k, hk⟩, x, l, b, hx, hl, hev⟩ := hw e hem
      obtain ⟨hd2, hdn2⟩ := done_more he hd hdn
      have hless := left_less he
      have emap : (done ++ [e]).map (·.born) = done.map (·.born) ++ [e.born] := by simp
      have hkk := kOf_eq hk
      simp -dsimp only [Vm.G, List.lookup, Nat.reduceAdd, Nat.reduceBEq, Int.reduceBNe, Int.reduceBEq, Nat.reduceLeDiff, q219]
      refine entry_intro chg clk e g0 (find_born hb.1.1 hem) ?_
      simp only [hk, strK]
      simp -dsimp only [Vm.G, List.lookup, Nat.reduceAdd, Nat.reduceBEq, Int.reduceBNe, Int.reduceBEq, Nat.reduceLeDiff, q219]
      refine bs_intro zr9 (by decide) (by decide) rfl rfl (by simp [solid, AV.cells]) ?_
      simp -dsimp only [Vm.G, List.lookup, Nat.reduceAdd, Nat.reduceBEq, Int.reduceBNe, Int.reduceBEq, Nat.reduceLeDiff, q219]
      refine app_sl Tryz.underlying262 (by simp [AV.cells]) (by simp only [List.length_map, List.length_cons, List.length_nil]; omega) ?_
      simp -dsimp only [Vm.G, List.lookup, Nat.reduceAdd, Nat.reduceBEq, Int.reduceBNe, Int.reduceBEq, Nat.reduceLeDiff, q219]
      refine kept_intro ⟨_, hless, _, le_mk [(3, .own true 9 1 (((done ++ [e]).map kOf).map (vAv strK))), (6, .iter ic clk ((done ++ [e]).map (·.born)) clk)] ?_, done ++ [e], by rw [emap], by rw [List.length_append]; simp only [List.length_cons, List.length_nil]; omega, rfl, hd2, hdn2, rfl⟩
      simp only [List.forall_mem_cons, List.not_mem_nil, false_imp_iff, implies_true, and_true, List.map_append, List.map_cons, List.map_nil, hkk, vAv, strK]
      try simp -dsimp only [Vm.G, List.lookup, Nat.reduceAdd, Nat.reduceBEq, Int.reduceBNe, Int.reduceBEq, Nat.reduceLeDiff, q219, List.map_append, List.map_cons, List.map_nil, hkk, vAv, strK]
      repeat' first | exact Fg.refl _ | exact Fg.nil _ _ _ (by decide) | refine And.intro ?_ ?_
/-- What stood beneath, as bytes that are there. -/
def wasWSpec : Vm.Spec := fun args h Q => ∃ (iv ic im : Nat) (mem : List Ent) (clk : Nat) (k : List UInt8), args = [.ptr iv 0, .sl 1 (k.map encB)] ∧ h[iv]? = some (vobj ic im) ∧ h[im]? = some (.map mem clk) ∧ (∀ e ∈ mem, WfM e) ∧
  ∀ (l : List UInt8) (b : Bool), Q (.tup [.sl 1 (l.map encB), .v (.bool b)]) h
theorem does_wasW : Does Tryz.prog 220 wasWSpec := by
  refine does_vwas.weak.imp ?_
  rintro args h Q ⟨iv, ic, im, mem, clk, k, rfl, h1, h2, hw, hq⟩
  refine ⟨iv, ic, im, mem, clk, k, rfl, h1, h2, hw, fun e he => ?_, fun he => ?_⟩
  · obtain ⟨-, l, hx, -⟩ := hw e (mget_mem he)
    exact ⟨_, .tup (.cons hx.ga GaL.rfl), hq l true⟩
  · exact ⟨_, .tup (.cons (.nil 1) GaL.rfl), hq [] false⟩
theorem lookup_shape {t kt et : TypeId} {P : Program} {id : Nat} {h : Heap} {K : AV → Prop} {z : Value} (hm : MapT P t kt et .string) (hz : (P.info? et).bind (·.zero) = some z) (hcz : cst z = .agg [.v (.slice none 0 0), .v (.bool false)]) (chg : List Ent) (clk : Nat) (hh : h[id]? = some (.map chg clk)) (hw : ∀ e ∈ chg, WfC e) (k : List UInt8)
    (hK : ∀ x l b, isB x l → l.length ≤ 120 → K (.agg [x, .v (.bool b)])) : awpLookup P t (.mp id) (.v (.string ⟨k.toArray⟩)) false h K := by
  refine lookup_intro hm hz chg clk hh trivial (keys_str fun e he => (hw e he).1) (fun e he => ?_) (fun he => ?_)
  · obtain ⟨-, x, l, b, hx, hl, hev⟩ := hw e (mget_mem he)
    show K e.val
    rw [hev]; exact hK x l b hx hl
  · show K (cst z)
    rw [hcz]; exact hK _ [] false (.inr ⟨rfl, rfl⟩) (by simp)
theorem len_snoc {α : Type} {l : List α} {x : α} {i : Nat} (h : l.length ≤ i) : (l ++ [x]).length ≤ i + 1 := by rw [List.length_append, List.length_singleton]; omega
def changesSpec : Vm.Spec := fun args h Q => ∃ (V : VId) (f : Fun), args = [.ptr V.iv 0] ∧ isView h V f ∧ f.n ≤ 536870912 ∧ ∀ (p : List KV) (d : List (List UInt8)), Q (.tup [.sl 2 (p.map kvAv), .sl 1 (d.map fun k => .sl 1 (k.map encB))]) h
set_option maxRecDepth 20000 in
set_option maxHeartbeats 8000000 in
theorem does_changes : Does Tryz.prog 141 changesSpec := by
  refine does_of_awp (good_cons does_vready (good_cons does_keys (good_cons does_wasW (good_cons does_equal (good_cons does_cloneW good_nil))))) Tryz.func141 rfl (by decide +kernel) (by decide +kernel) ?_
  rintro args h Q ⟨V, f, rfl, ⟨chg, clk, mem, clk2, h1, h2, h3, h4, h5, h6, h7, hlen, hk32⟩, hfn, hq⟩
  refine ⟨by simp [Tryz.f141], ?_⟩
  rw [awpFunc_some (by rfl)]
  simp -dsimp only [Vm.G, List.lookup, Nat.reduceAdd, Nat.reduceBEq, Int.reduceBNe, Int.reduceBEq, Nat.reduceLeDiff, q141]
  refine call_one (S := vreadySpec) rfl _ GaL.rfl ⟨V.iv, V.ic, _, rfl, h1, ?_⟩
  simp -dsimp only [Vm.G, List.lookup, Nat.reduceAdd, Nat.reduceBEq, Int.reduceBNe, Int.reduceBEq, Nat.reduceLeDiff, q141, h1]
  refine call_one (S := keysSpec) rfl _ GaL.rfl ⟨V.ic, chg, clk, rfl, h2, h5.1, h6.1, by omega, fun e he => hk32 e (.inl he), fun ks hkl hks32 => ?_⟩
  simp -dsimp only [Vm.G, List.lookup, Nat.reduceAdd, Nat.reduceBEq, Int.reduceBNe, Int.reduceBEq, Nat.reduceLeDiff, q141]
  refine awp_loop (fun m s h' => ∃ (i : Nat) (pu : List KV) (de : List (List UInt8)), i + m = ks.length ∧ h' = h ∧ pu.length ≤ i ∧ de.length ≤ i ∧ s = mk [(0, .ptr V.iv 0), (4, .own true 155 2 ((pu).map kvAv)), (5, .own true 32 1 ((de).map fun k => AV.sl 1 (k.map encB))), (18, .own true 9 1 (ks.map (vAv strK))), (19, .v (.int .i64 ks.length)), (20, .v (.int .i64 (i : Nat)))])
    ks.length _ (le_mk _ ?_) ⟨0, [], [], by omega, rfl, by simp, by simp, rfl⟩ ?_
  · simp only [List.forall_mem_cons, List.not_mem_nil, false_imp_iff, implies_true, and_true]
    try simp -dsimp only [Vm.G, List.lookup, Nat.reduceAdd, Nat.reduceBEq, Int.reduceBNe, Int.reduceBEq, Nat.reduceLeDiff, q141]
    repeat' first | exact Fg.refl _ | exact Fg.nil _ _ _ (by decide) | refine And.intro ?_ ?_
  · rintro m s h' ⟨i, pu, de, hi, rfl, hpu, hde, rfl⟩
    simp -dsimp only [Vm.G, List.lookup, Nat.reduceAdd, Nat.reduceBEq, Int.reduceBNe, Int.reduceBEq, Nat.reduceLeDiff, q141]
    refine cond_intro (fun hcc => ?_) (fun hcc => ?_)
    · have hlt : i < ks.length := by have := of_decide_eq_true hcc; omega
      have hw2 : IntKind.i64.wrap ((i : Int) + 1) = ((i + 1 : Nat) : Int) := by rw [wrap_i64 (by omega) (by omega)]; simp
      have hgi : (ks.map (vAv strK))[i]? = some (vAv strK ks[i]) := by rw [List.getElem?_map, List.getElem?_eq_getElem hlt]; rfl
      have hk3 := hks32 ks[i] (List.getElem_mem hlt)
      generalize ks[i] = k at hgi hk3
      have hks : (ByteArray.mk k.toArray).size ≤ maxLen := by
        have : (ByteArray.mk k.toArray).size = k.length := by simp [ByteArray.size]
        rw [this]; unfold maxLen; omega
      have hkd : (ByteArray.mk k.toArray).data.toList = k := by simp
      simp -dsimp only [Vm.G, List.lookup, Nat.reduceAdd, Nat.reduceBEq, Int.reduceBNe, Int.reduceBEq, Nat.reduceLeDiff, q141]
      refine idxO_intro (xs := ks.map (vAv strK)) (by omega) (by simp; omega) ?_
      simp -dsimp only [Vm.G, List.lookup, Nat.reduceAdd, Nat.reduceBEq, Int.reduceBNe, Int.reduceBEq, Nat.reduceLeDiff, q141, Int.toNat_natCast]
      refine eltA_intro (xs := ks.map (vAv strK)) hgi ?_
      simp -dsimp only [Vm.G, List.lookup, Nat.reduceAdd, Nat.reduceBEq, Int.reduceBNe, Int.reduceBEq, Nat.reduceLeDiff, q141, vAv, strK, AV.cells, List.drop_zero, h1]
      refine lookup_shape mt126 z217 (by simp [cst, plain]) chg clk h2 h5.1 k (fun x l b hx hl => ?_)
      have hg := hx.ga
      rcases hx with rfl | ⟨hl0, rfl⟩
      · simp -dsimp only [Vm.G, List.lookup, Nat.reduceAdd, Nat.reduceBEq, Int.reduceBNe, Int.reduceBEq, Nat.reduceLeDiff, q141]
        refine cvX_bytes bt32 Tryz.underlying9 hks ?_
        simp -dsimp only [Vm.G, List.lookup, Nat.reduceAdd, Nat.reduceBEq, Int.reduceBNe, Int.reduceBEq, Nat.reduceLeDiff, q141, hkd]
        refine call_one (S := wasWSpec) rfl _ GaL.rfl ⟨V.iv, V.ic, V.im, mem, clk2, k, rfl, h1, h3, h5.2, fun old was => ?_⟩
        cases b
        · cases was
          · simp -dsimp only [Vm.G, List.lookup, Nat.reduceAdd, Nat.reduceBEq, Int.reduceBNe, Int.reduceBEq, Nat.reduceLeDiff, q141]
            refine cvX_bytes bt32 Tryz.underlying9 hks ?_
            simp -dsimp only [Vm.G, List.lookup, Nat.reduceAdd, Nat.reduceBEq, Int.reduceBNe, Int.reduceBEq, Nat.reduceLeDiff, q141, hkd]
            refine call_one (S := cloneWSpec) rfl _ (GaL.cons hg .nil) ⟨l, by omega, rfl, ?_, ?_⟩
            · simp -dsimp only [Vm.G, List.lookup, Nat.reduceAdd, Nat.reduceBEq, Int.reduceBNe, Int.reduceBEq, Nat.reduceLeDiff, q141]
              refine bs_intro zr155 (by decide) (by decide) rfl rfl (by simp [solid, AV.cells]) ?_
              simp -dsimp only [Vm.G, List.lookup, Nat.reduceAdd, Nat.reduceBEq, Int.reduceBNe, Int.reduceBEq, Nat.reduceLeDiff, q141]
              refine app_sl Tryz.underlying65 (by simp [AV.cells]) (by simp only [List.length_map, List.length_cons, List.length_nil]; omega) ?_
              simp -dsimp only [Vm.G, List.lookup, Nat.reduceAdd, Nat.reduceBEq, Int.reduceBNe, Int.reduceBEq, Nat.reduceLeDiff, q141]
              refine kept_intro ⟨ks.length - (i + 1), by omega, _, le_mk [(0, .ptr V.iv 0), (4, .own true 155 2 ((pu ++ [(k, l)]).map kvAv)), (5, .own true 32 1 ((de).map fun k => AV.sl 1 (k.map encB))), (18, .own true 9 1 (ks.map (vAv strK))), (19, .v (.int .i64 ks.length)), (20, .v (.int .i64 (i + 1 : Nat)))] ?_, i + 1, _, _, by omega, rfl, by exact len_snoc hpu, by omega, rfl⟩
              simp only [List.forall_mem_cons, List.not_mem_nil, false_imp_iff, implies_true, and_true, hw2, List.map_append, List.map_cons, List.map_nil, kvAv]
              try simp -dsimp only [Vm.G, List.lookup, Nat.reduceAdd, Nat.reduceBEq, Int.reduceBNe, Int.reduceBEq, Nat.reduceLeDiff, q141, hw2, List.map_append, List.map_cons, List.map_nil, kvAv]
              repeat' first | exact Fg.refl _ | exact Fg.nil _ _ _ (by decide) | refine And.intro ?_ ?_
            · simp -dsimp only [Vm.G, List.lookup, Nat.reduceAdd, Nat.reduceBEq, Int.reduceBNe, Int.reduceBEq, Nat.reduceLeDiff, q141]
              refine bs_intro zr155 (by decide) (by decide) rfl rfl (by simp [solid, AV.cells]) ?_
              simp -dsimp only [Vm.G, List.lookup, Nat.reduceAdd, Nat.reduceBEq, Int.reduceBNe, Int.reduceBEq, Nat.reduceLeDiff, q141]
              refine app_sl Tryz.underlying65 (by simp [AV.cells]) (by simp only [List.length_map, List.length_cons, List.length_nil]; omega) ?_
              simp -dsimp only [Vm.G, List.lookup, Nat.reduceAdd, Nat.reduceBEq, Int.reduceBNe, Int.reduceBEq, Nat.reduceLeDiff, q141]
              refine kept_intro ⟨ks.length - (i + 1), by omega, _, le_mk [(0, .ptr V.iv 0), (4, .own true 155 2 ((pu ++ [(k, l)]).map kvAv)), (5, .own true 32 1 ((de).map fun k => AV.sl 1 (k.map encB))), (18, .own true 9 1 (ks.map (vAv strK))), (19, .v (.int .i64 ks.length)), (20, .v (.int .i64 (i + 1 : Nat)))] ?_, i + 1, _, _, by omega, rfl, by exact len_snoc hpu, by omega, rfl⟩
              simp only [List.forall_mem_cons, List.not_mem_nil, false_imp_iff, implies_true, and_true, hw2, List.map_append, List.map_cons, List.map_nil, kvAv]
              try simp -dsimp only [Vm.G, List.lookup, Nat.reduceAdd, Nat.reduceBEq, Int.reduceBNe, Int.reduceBEq, Nat.reduceLeDiff, q141, hw2, List.map_append, List.map_cons, List.map_nil, kvAv]
              repeat' first | exact Fg.refl _ | exact Fg.nil _ _ _ (by decide) | refine And.intro ?_ ?_
          · simp -dsimp only [Vm.G, List.lookup, Nat.reduceAdd, Nat.reduceBEq, Int.reduceBNe, Int.reduceBEq, Nat.reduceLeDiff, q141]
            refine call_one (S := equalSpec) rfl _ (GaL.cons (.refl _) (GaL.cons hg .nil)) ⟨old, _, rfl, ?_⟩
            have he := Bool.eq_false_or_eq_true (old == l)
            rcases he with c | c
            · simp -dsimp only [Vm.G, List.lookup, Nat.reduceAdd, Nat.reduceBEq, Int.reduceBNe, Int.reduceBEq, Nat.reduceLeDiff, q141, c]
              refine kept_intro ⟨ks.length - (i + 1), by omega, _, le_mk [(0, .ptr V.iv 0), (4, .own true 155 2 ((pu).map kvAv)), (5, .own true 32 1 ((de).map fun k => AV.sl 1 (k.map encB))), (18, .own true 9 1 (ks.map (vAv strK))), (19, .v (.int .i64 ks.length)), (20, .v (.int .i64 (i + 1 : Nat)))] ?_, i + 1, _, _, by omega, rfl, by omega, by omega, rfl⟩
              simp only [List.forall_mem_cons, List.not_mem_nil, false_imp_iff, implies_true, and_true, hw2, List.map_append, List.map_cons, List.map_nil, kvAv]
              try simp -dsimp only [Vm.G, List.lookup, Nat.reduceAdd, Nat.reduceBEq, Int.reduceBNe, Int.reduceBEq, Nat.reduceLeDiff, q141, hw2, List.map_append, List.map_cons, List.map_nil, kvAv]
              repeat' first | exact Fg.refl _ | exact Fg.nil _ _ _ (by decide) | refine And.intro ?_ ?_
            · simp -dsimp only [Vm.G, List.lookup, Nat.reduceAdd, Nat.reduceBEq, Int.reduceBNe, Int.reduceBEq, Nat.reduceLeDiff, q141, c]
              refine cvX_bytes bt32 Tryz.underlying9 hks ?_
              simp -dsimp only [Vm.G, List.lookup, Nat.reduceAdd, Nat.reduceBEq, Int.reduceBNe, Int.reduceBEq, Nat.reduceLeDiff, q141, hkd]
              refine call_one (S := cloneWSpec) rfl _ (GaL.cons hg .nil) ⟨l, by omega, rfl, ?_, ?_⟩
              · simp -dsimp only [Vm.G, List.lookup, Nat.reduceAdd, Nat.reduceBEq, Int.reduceBNe, Int.reduceBEq, Nat.reduceLeDiff, q141]
                refine bs_intro zr155 (by decide) (by decide) rfl rfl (by simp [solid, AV.cells]) ?_
                simp -dsimp only [Vm.G, List.lookup, Nat.reduceAdd, Nat.reduceBEq, Int.reduceBNe, Int.reduceBEq, Nat.reduceLeDiff, q141]
                refine app_sl Tryz.underlying65 (by simp [AV.cells]) (by simp only [List.length_map, List.length_cons, List.length_nil]; omega) ?_
                simp -dsimp only [Vm.G, List.lookup, Nat.reduceAdd, Nat.reduceBEq, Int.reduceBNe, Int.reduceBEq, Nat.reduceLeDiff, q141]
                refine kept_intro ⟨ks.length - (i + 1), by omega, _, le_mk [(0, .ptr V.iv 0), (4, .own true 155 2 ((pu ++ [(k, l)]).map kvAv)), (5, .own true 32 1 ((de).map fun k => AV.sl 1 (k.map encB))), (18, .own true 9 1 (ks.map (vAv strK))), (19, .v (.int .i64 ks.length)), (20, .v (.int .i64 (i + 1 : Nat)))] ?_, i + 1, _, _, by omega, rfl, by exact len_snoc hpu, by omega, rfl⟩
                simp only [List.forall_mem_cons, List.not_mem_nil, false_imp_iff, implies_true, and_true, hw2, List.map_append, List.map_cons, List.map_nil, kvAv]
                try simp -dsimp only [Vm.G, List.lookup, Nat.reduceAdd, Nat.reduceBEq, Int.reduceBNe, Int.reduceBEq, Nat.reduceLeDiff, q141, hw2, List.map_append, List.map_cons, List.map_nil, kvAv]
                repeat' first | exact Fg.refl _ | exact Fg.nil _ _ _ (by decide) | refine And.intro ?_ ?_
              · simp -dsimp only [Vm.G, List.lookup, Nat.reduceAdd, Nat.reduceBEq, Int.reduceBNe, Int.reduceBEq, Nat.reduceLeDiff, q141]
                refine bs_intro zr155 (by decide) (by decide) rfl rfl (by simp [solid, AV.cells]) ?_
                simp -dsimp only [Vm.G, List.lookup, Nat.reduceAdd, Nat.reduceBEq, Int.reduceBNe, Int.reduceBEq, Nat.reduceLeDiff, q141]
                refine app_sl Tryz.underlying65 (by simp [AV.cells]) (by simp only [List.length_map, List.length_cons, List.length_nil]; omega) ?_
                simp -dsimp only [Vm.G, List.lookup, Nat.reduceAdd, Nat.reduceBEq, Int.reduceBNe, Int.reduceBEq, Nat.reduceLeDiff, q141]
                refine kept_intro ⟨ks.length - (i + 1), by omega, _, le_mk [(0, .ptr V.iv 0), (4, .own true 155 2 ((pu ++ [(k, l)]).map kvAv)), (5, .own true 32 1 ((de).map fun k => AV.sl 1 (k.map encB))), (18, .own true 9 1 (ks.map (vAv strK))), (19, .v (.int .i64 ks.length)), (20, .v (.int .i64 (i + 1 : Nat)))] ?_, i + 1, _, _, by omega, rfl, by exact len_snoc hpu, by omega, rfl⟩
                simp only [List.forall_mem_cons, List.not_mem_nil, false_imp_iff, implies_true, and_true, hw2, List.map_append, List.map_cons, List.map_nil, kvAv]
                try simp -dsimp only [Vm.G, List.lookup, Nat.reduceAdd, Nat.reduceBEq, Int.reduceBNe, Int.reduceBEq, Nat.reduceLeDiff, q141, hw2, List.map_append, List.map_cons, List.map_nil, kvAv]
                repeat' first | exact Fg.refl _ | exact Fg.nil _ _ _ (by decide) | refine And.intro ?_ ?_
        · cases was
          · simp -dsimp only [Vm.G, List.lookup, Nat.reduceAdd, Nat.reduceBEq, Int.reduceBNe, Int.reduceBEq, Nat.reduceLeDiff, q141]
            refine kept_intro ⟨ks.length - (i + 1), by omega, _, le_mk [(0, .ptr V.iv 0), (4, .own true 155 2 ((pu).map kvAv)), (5, .own true 32 1 ((de).map fun k => AV.sl 1 (k.map encB))), (18, .own true 9 1 (ks.map (vAv strK))), (19, .v (.int .i64 ks.length)), (20, .v (.int .i64 (i + 1 : Nat)))] ?_, i + 1, _, _, by omega, rfl, by omega, by omega, rfl⟩
            simp only [List.forall_mem_cons, List.not_mem_nil, false_imp_iff, implies_true, and_true, hw2, List.map_append, List.map_cons, List.map_nil, kvAv]
            try simp -dsimp only [Vm.G, List.lookup, Nat.reduceAdd, Nat.reduceBEq, Int.reduceBNe, Int.reduceBEq, Nat.reduceLeDiff, q141, hw2, List.map_append, List.map_cons, List.map_nil, kvAv]
            repeat' first | exact Fg.refl _ | exact Fg.nil _ _ _ (by decide) | refine And.intro ?_ ?_
          · simp -dsimp only [Vm.G, List.lookup, Nat.reduceAdd, Nat.reduceBEq, Int.reduceBNe, Int.reduceBEq, Nat.reduceLeDiff, q141]
            refine cvX_bytes bt32 Tryz.underlying9 hks ?_
            simp -dsimp only [Vm.G, List.lookup, Nat.reduceAdd, Nat.reduceBEq, Int.reduceBNe, Int.reduceBEq, Nat.reduceLeDiff, q141, hkd]
            refine bs_intro zr32 (by decide) (by decide) rfl rfl (by simp [solid, AV.cells]) ?_
            simp -dsimp only [Vm.G, List.lookup, Nat.reduceAdd, Nat.reduceBEq, Int.reduceBNe, Int.reduceBEq, Nat.reduceLeDiff, q141]
            refine app_sl Tryz.underlying194 (by simp [AV.cells]) (by simp only [List.length_map, List.length_cons, List.length_nil]; omega) ?_
            simp -dsimp only [Vm.G, List.lookup, Nat.reduceAdd, Nat.reduceBEq, Int.reduceBNe, Int.reduceBEq, Nat.reduceLeDiff, q141]
            refine kept_intro ⟨ks.length - (i + 1), by omega, _, le_mk [(0, .ptr V.iv 0), (4, .own true 155 2 ((pu).map kvAv)), (5, .own true 32 1 ((de ++ [k]).map fun k => AV.sl 1 (k.map encB))), (18, .own true 9 1 (ks.map (vAv strK))), (19, .v (.int .i64 ks.length)), (20, .v (.int .i64 (i + 1 : Nat)))] ?_, i + 1, _, _, by omega, rfl, by omega, by exact len_snoc hde, rfl⟩
            simp only [List.forall_mem_cons, List.not_mem_nil, false_imp_iff, implies_true, and_true, hw2, List.map_append, List.map_cons, List.map_nil, kvAv]
            try simp -dsimp only [Vm.G, List.lookup, Nat.reduceAdd, Nat.reduceBEq, Int.reduceBNe, Int.reduceBEq, Nat.reduceLeDiff, q141, hw2, List.map_append, List.map_cons, List.map_nil, kvAv]
            repeat' first | exact Fg.refl _ | exact Fg.nil _ _ _ (by decide) | refine And.intro ?_ ?_
      · simp -dsimp only [Vm.G, List.lookup, Nat.reduceAdd, Nat.reduceBEq, Int.reduceBNe, Int.reduceBEq, Nat.reduceLeDiff, q141]
        refine cvX_bytes bt32 Tryz.underlying9 hks ?_
        simp -dsimp only [Vm.G, List.lookup, Nat.reduceAdd, Nat.reduceBEq, Int.reduceBNe, Int.reduceBEq, Nat.reduceLeDiff, q141, hkd]
        refine call_one (S := wasWSpec) rfl _ GaL.rfl ⟨V.iv, V.ic, V.im, mem, clk2, k, rfl, h1, h3, h5.2, fun old was => ?_⟩
        cases b
        · cases was
          · simp -dsimp only [Vm.G, List.lookup, Nat.reduceAdd, Nat.reduceBEq, Int.reduceBNe, Int.reduceBEq, Nat.reduceLeDiff, q141]
            refine cvX_bytes bt32 Tryz.underlying9 hks ?_
            simp -dsimp only [Vm.G, List.lookup, Nat.reduceAdd, Nat.reduceBEq, Int.reduceBNe, Int.reduceBEq, Nat.reduceLeDiff, q141, hkd]
            refine call_one (S := cloneWSpec) rfl _ (GaL.cons hg .nil) ⟨l, by omega, rfl, ?_, ?_⟩
            · simp -dsimp only [Vm.G, List.lookup, Nat.reduceAdd, Nat.reduceBEq, Int.reduceBNe, Int.reduceBEq, Nat.reduceLeDiff, q141]
              refine bs_intro zr155 (by decide) (by decide) rfl rfl (by simp [solid, AV.cells]) ?_
              simp -dsimp only [Vm.G, List.lookup, Nat.reduceAdd, Nat.reduceBEq, Int.reduceBNe, Int.reduceBEq, Nat.reduceLeDiff, q141]
              refine app_sl Tryz.underlying65 (by simp [AV.cells]) (by simp only [List.length_map, List.length_cons, List.length_nil]; omega) ?_
              simp -dsimp only [Vm.G, List.lookup, Nat.reduceAdd, Nat.reduceBEq, Int.reduceBNe, Int.reduceBEq, Nat.reduceLeDiff, q141]
              refine kept_intro ⟨ks.length - (i + 1), by omega, _, le_mk [(0, .ptr V.iv 0), (4, .own true 155 2 ((pu ++ [(k, l)]).map kvAv)), (5, .own true 32 1 ((de).map fun k => AV.sl 1 (k.map encB))), (18, .own true 9 1 (ks.map (vAv strK))), (19, .v (.int .i64 ks.length)), (20, .v (.int .i64 (i + 1 : Nat)))] ?_, i + 1, _, _, by omega, rfl, by exact len_snoc hpu, by omega, rfl⟩
              simp only [List.forall_mem_cons, List.not_mem_nil, false_imp_iff, implies_true, and_true, hw2, List.map_append, List.map_cons, List.map_nil, kvAv]
              try simp -dsimp only [Vm.G, List.lookup, Nat.reduceAdd, Nat.reduceBEq, Int.reduceBNe, Int.reduceBEq, Nat.reduceLeDiff, q141, hw2, List.map_append, List.map_cons, List.map_nil, kvAv]
              repeat' first | exact Fg.refl _ | exact Fg.nil _ _ _ (by decide) | refine And.intro ?_ ?_
            · simp -dsimp only [Vm.G, List.lookup, Nat.reduceAdd, Nat.reduceBEq, Int.reduceBNe, Int.reduceBEq, Nat.reduceLeDiff, q141]
              refine bs_intro zr155 (by decide) (by decide) rfl rfl (by simp [solid, AV.cells]) ?_
              simp -dsimp only [Vm.G, List.lookup, Nat.reduceAdd, Nat.reduceBEq, Int.reduceBNe, Int.reduceBEq, Nat.reduceLeDiff, q141]
              refine app_sl Tryz.underlying65 (by simp [AV.cells]) (by simp only [List.length_map, List.length_cons, List.length_nil]; omega) ?_
              simp -dsimp only [Vm.G, List.lookup, Nat.reduceAdd, Nat.reduceBEq, Int.reduceBNe, Int.reduceBEq, Nat.reduceLeDiff, q141]
              refine kept_intro ⟨ks.length - (i + 1), by omega, _, le_mk [(0, .ptr V.iv 0), (4, .own true 155 2 ((pu ++ [(k, l)]).map kvAv)), (5, .own true 32 1 ((de).map fun k => AV.sl 1 (k.map encB))), (18, .own true 9 1 (ks.map (vAv strK))), (19, .v (.int .i64 ks.length)), (20, .v (.int .i64 (i + 1 : Nat)))] ?_, i + 1, _, _, by omega, rfl, by exact len_snoc hpu, by omega, rfl⟩
              simp only [List.forall_mem_cons, List.not_mem_nil, false_imp_iff, implies_true, and_true, hw2, List.map_append, List.map_cons, List.map_nil, kvAv]
              try simp -dsimp only [Vm.G, List.lookup, Nat.reduceAdd, Nat.reduceBEq, Int.reduceBNe, Int.reduceBEq, Nat.reduceLeDiff, q141, hw2, List.map_append, List.map_cons, List.map_nil, kvAv]
              repeat' first | exact Fg.refl _ | exact Fg.nil _ _ _ (by decide) | refine And.intro ?_ ?_
          · simp -dsimp only [Vm.G, List.lookup, Nat.reduceAdd, Nat.reduceBEq, Int.reduceBNe, Int.reduceBEq, Nat.reduceLeDiff, q141]
            refine call_one (S := equalSpec) rfl _ (GaL.cons (.refl _) (GaL.cons hg .nil)) ⟨old, _, rfl, ?_⟩
            have he := Bool.eq_false_or_eq_true (old == l)
            rcases he with c | c
            · simp -dsimp only [Vm.G, List.lookup, Nat.reduceAdd, Nat.reduceBEq, Int.reduceBNe, Int.reduceBEq, Nat.reduceLeDiff, q141, c]
              refine kept_intro ⟨ks.length - (i + 1), by omega, _, le_mk [(0, .ptr V.iv 0), (4, .own true 155 2 ((pu).map kvAv)), (5, .own true 32 1 ((de).map fun k => AV.sl 1 (k.map encB))), (18, .own true 9 1 (ks.map (vAv strK))), (19, .v (.int .i64 ks.length)), (20, .v (.int .i64 (i + 1 : Nat)))] ?_, i + 1, _, _, by omega, rfl, by omega, by omega, rfl⟩
              simp only [List.forall_mem_cons, List.not_mem_nil, false_imp_iff, implies_true, and_true, hw2, List.map_append, List.map_cons, List.map_nil, kvAv]
              try simp -dsimp only [Vm.G, List.lookup, Nat.reduceAdd, Nat.reduceBEq, Int.reduceBNe, Int.reduceBEq, Nat.reduceLeDiff, q141, hw2, List.map_append, List.map_cons, List.map_nil, kvAv]
              repeat' first | exact Fg.refl _ | exact Fg.nil _ _ _ (by decide) | refine And.intro ?_ ?_
            · simp -dsimp only [Vm.G, List.lookup, Nat.reduceAdd, Nat.reduceBEq, Int.reduceBNe, Int.reduceBEq, Nat.reduceLeDiff, q141, c]
              refine cvX_bytes bt32 Tryz.underlying9 hks ?_
              simp -dsimp only [Vm.G, List.lookup, Nat.reduceAdd, Nat.reduceBEq, Int.reduceBNe, Int.reduceBEq, Nat.reduceLeDiff, q141, hkd]
              refine call_one (S := cloneWSpec) rfl _ (GaL.cons hg .nil) ⟨l, by omega, rfl, ?_, ?_⟩
              · simp -dsimp only [Vm.G, List.lookup, Nat.reduceAdd, Nat.reduceBEq, Int.reduceBNe, Int.reduceBEq, Nat.reduceLeDiff, q141]
                refine bs_intro zr155 (by decide) (by decide) rfl rfl (by simp [solid, AV.cells]) ?_
                simp -dsimp only [Vm.G, List.lookup, Nat.reduceAdd, Nat.reduceBEq, Int.reduceBNe, Int.reduceBEq, Nat.reduceLeDiff, q141]
                refine app_sl Tryz.underlying65 (by simp [AV.cells]) (by simp only [List.length_map, List.length_cons, List.length_nil]; omega) ?_
                simp -dsimp only [Vm.G, List.lookup, Nat.reduceAdd, Nat.reduceBEq, Int.reduceBNe, Int.reduceBEq, Nat.reduceLeDiff, q141]
                refine kept_intro ⟨ks.length - (i + 1), by omega, _, le_mk [(0, .ptr V.iv 0), (4, .own true 155 2 ((pu ++ [(k, l)]).map kvAv)), (5, .own true 32 1 ((de).map fun k => AV.sl 1 (k.map encB))), (18, .own true 9 1 (ks.map (vAv strK))), (19, .v (.int .i64 ks.length)), (20, .v (.int .i64 (i + 1 : Nat)))] ?_, i + 1, _, _, by omega, rfl, by exact len_snoc hpu, by omega, rfl⟩
                simp only [List.forall_mem_cons, List.not_mem_nil, false_imp_iff, implies_true, and_true, hw2, List.map_append, List.map_cons, List.map_nil, kvAv]
                try simp -dsimp only [Vm.G, List.lookup, Nat.reduceAdd, Nat.reduceBEq, Int.reduceBNe, Int.reduceBEq, Nat.reduceLeDiff, q141, hw2, List.map_append, List.map_cons, List.map_nil, kvAv]
                repeat' first | exact Fg.refl _ | exact Fg.nil _ _ _ (by decide) | refine And.intro ?_ ?_
              · simp -dsimp only [Vm.G, List.lookup, Nat.reduceAdd, Nat.reduceBEq, Int.reduceBNe, Int.reduceBEq, Nat.reduceLeDiff, q141]
                refine bs_intro zr155 (by decide) (by decide) rfl rfl (by simp [solid, AV.cells]) ?_
                simp -dsimp only [Vm.G, List.lookup, Nat.reduceAdd, Nat.reduceBEq, Int.reduceBNe, Int.reduceBEq, Nat.reduceLeDiff, q141]
                refine app_sl Tryz.underlying65 (by simp [AV.cells]) (by simp only [List.length_map, List.length_cons, List.length_nil]; omega) ?_
                simp -dsimp only [Vm.G, List.lookup, Nat.reduceAdd, Nat.reduceBEq, Int.reduceBNe, Int.reduceBEq, Nat.reduceLeDiff, q141]
                refine kept_intro ⟨ks.length - (i + 1), by omega, _, le_mk [(0, .ptr V.iv 0), (4, .own true 155 2 ((pu ++ [(k, l)]).map kvAv)), (5, .own true 32 1 ((de).map fun k => AV.sl 1 (k.map encB))), (18, .own true 9 1 (ks.map (vAv strK))), (19, .v (.int .i64 ks.length)), (20, .v (.int .i64 (i + 1 : Nat)))] ?_, i + 1, _, _, by omega, rfl, by exact len_snoc hpu, by omega, rfl⟩
                simp only [List.forall_mem_cons, List.not_mem_nil, false_imp_iff, implies_true, and_true, hw2, List.map_append, List.map_cons, List.map_nil, kvAv]
                try simp -dsimp only [Vm.G, List.lookup, Nat.reduceAdd, Nat.reduceBEq, Int.reduceBNe, Int.reduceBEq, Nat.reduceLeDiff, q141, hw2, List.map_append, List.map_cons, List.map_nil, kvAv]
                repeat' first | exact Fg.refl _ | exact Fg.nil _ _ _ (by decide) | refine And.intro ?_ ?_
        · cases was
          · simp -dsimp only [Vm.G, List.lookup, Nat.reduceAdd, Nat.reduceBEq, Int.reduceBNe, Int.reduceBEq, Nat.reduceLeDiff, q141]
            refine kept_intro ⟨ks.length - (i + 1), by omega, _, le_mk [(0, .ptr V.iv 0), (4, .own true 155 2 ((pu).map kvAv)), (5, .own true 32 1 ((de).map fun k => AV.sl 1 (k.map encB))), (18, .own true 9 1 (ks.map (vAv strK))), (19, .v (.int .i64 ks.length)), (20, .v (.int .i64 (i + 1 : Nat)))] ?_, i + 1, _, _, by omega, rfl, by omega, by omega, rfl⟩
            simp only [List.forall_mem_cons, List.not_mem_nil, false_imp_iff, implies_true, and_true, hw2, List.map_append, List.map_cons, List.map_nil, kvAv]
            try simp -dsimp only [Vm.G, List.lookup, Nat.reduceAdd, Nat.reduceBEq, Int.reduceBNe, Int.reduceBEq, Nat.reduceLeDiff, q141, hw2, List.map_append, List.map_cons, List.map_nil, kvAv]
            repeat' first | exact Fg.refl _ | exact Fg.nil _ _ _ (by decide) | refine And.intro ?_ ?_
          · simp -dsimp only [Vm.G, List.lookup, Nat.reduceAdd, Nat.reduceBEq, Int.reduceBNe, Int.reduceBEq, Nat.reduceLeDiff, q141]
            refine cvX_bytes bt32 Tryz.underlying9 hks ?_
            simp -dsimp only [Vm.G, List.lookup, Nat.reduceAdd, Nat.reduceBEq, Int.reduceBNe, Int.reduceBEq, Nat.reduceLeDiff, q141, hkd]
            refine bs_intro zr32 (by decide) (by decide) rfl rfl (by simp [solid, AV.cells]) ?_
            simp -dsimp only [Vm.G, List.lookup, Nat.reduceAdd, Nat.reduceBEq, Int.reduceBNe, Int.reduceBEq, Nat.reduceLeDiff, q141]
            refine app_sl Tryz.underlying194 (by simp [AV.cells]) (by simp only [List.length_map, List.length_cons, List.length_nil]; omega) ?_
            simp -dsimp only [Vm.G, List.lookup, Nat.reduceAdd, Nat.reduceBEq, Int.reduceBNe, Int.reduceBEq, Nat.reduceLeDiff, q141]
            refine kept_intro ⟨ks.length - (i + 1), by omega, _, le_mk [(0, .ptr V.iv 0), (4, .own true 155 2 ((pu).map kvAv)), (5, .own true 32 1 ((de ++ [k]).map fun k => AV.sl 1 (k.map encB))), (18, .own true 9 1 (ks.map (vAv strK))), (19, .v (.int .i64 ks.length)), (20, .v (.int .i64 (i + 1 : Nat)))] ?_, i + 1, _, _, by omega, rfl, by omega, by exact len_snoc hde, rfl⟩
            simp only [List.forall_mem_cons, List.not_mem_nil, false_imp_iff, implies_true, and_true, hw2, List.map_append, List.map_cons, List.map_nil, kvAv]
            try simp -dsimp only [Vm.G, List.lookup, Nat.reduceAdd, Nat.reduceBEq, Int.reduceBNe, Int.reduceBEq, Nat.reduceLeDiff, q141, hw2, List.map_append, List.map_cons, List.map_nil, kvAv]
            repeat' first | exact Fg.refl _ | exact Fg.nil _ _ _ (by decide) | refine And.intro ?_ ?_
    · have hge : ¬ i < ks.length := by have := of_decide_eq_false hcc; omega
      simp -dsimp only [Vm.G, List.lookup, Nat.reduceAdd, Nat.reduceBEq, Int.reduceBNe, Int.reduceBEq, Nat.reduceLeDiff, q141]
      exact hq pu de
theorem heap_set_same {h : Heap} {i : Nat} {x : AObj} (hx : h[i]? = some x) : h.set i x = h := by
  apply List.ext_getElem?
  intro j
  rw [List.getElem?_set]
  split
  · rename_i e; subst e
    split
    · exact hx.symm
    · rename_i hn; exact absurd (get_lt hx) hn
  · rfl
theorem Kept.perm {mem0 done chg mem : List Ent} {clk : Nat} (h : Kept mem0 done mem clk) (hp : done.Perm chg) (hk : ∀ e ∈ chg, ∃ k, e.key = strK k) (hn : (chg.map kOf).Nodup) : Kept mem0 chg mem clk :=
  ⟨h.wf, h.born, by have := hp.length_eq; have := h.len; omega, h.short, fun k => by
    rw [h.now k]
    exact nowOf_perm hp (fun e he => hk e (hp.mem_iff.1 he)) ((hp.map kOf).nodup_iff.2 hn) k⟩
def keepSpec : Vm.Spec := fun args h Q => ∃ (V : VId) (chg mem : List Ent) (clk clk2 : Nat), args = [.ptr V.iv 0] ∧ h[V.iv]? = some (vobj V.ic V.im) ∧ h[V.ic]? = some (.map chg clk) ∧ h[V.im]? = some (.map mem clk2) ∧ (V.iv ≠ V.im ∧ V.ic ≠ V.im) ∧ ((∀ e ∈ chg, WfC e) ∧ ∀ e ∈ mem, WfM e) ∧ (Born chg clk ∧ Born mem clk2) ∧
  (∀ e, e ∈ chg ∨ e ∈ mem → (kOf e).length ≤ 32) ∧ ∀ mem' clk', Kept mem chg mem' clk' → Q (.tup []) (h.set V.im (.map mem' clk'))
set_option maxRecDepth 20000 in
set_option maxHeartbeats 2000000 in
theorem does_keep : Does Tryz.prog 142 keepSpec := by
  refine does_of_awp good_nil Tryz.func142 rfl (by decide +kernel) (by decide +kernel) ?_
  rintro args h Q ⟨V, chg, mem, clk, clk2, rfl, h1, h2, h3, h4, h5, h6, hk32, hq⟩
  refine ⟨by simp [Tryz.f142], ?_⟩
  rw [awpFunc_some (by rfl)]
  simp -dsimp only [Vm.G, List.lookup, Nat.reduceAdd, Nat.reduceBEq, Int.reduceBNe, Int.reduceBEq, Nat.reduceLeDiff, q142, h1]
  refine range_intro mt126 chg clk h2 ?_
  simp -dsimp only [Vm.G, List.lookup, Nat.reduceAdd, Nat.reduceBEq, Int.reduceBNe, Int.reduceBEq, Nat.reduceLeDiff, q142]
  refine awp_loop (fun m s h' => ∃ (done me : List Ent) (ck : Nat), m = (leftE chg (done.map (·.born))).length ∧ done.length + m ≤ chg.length ∧ Kept mem done me ck ∧ h' = h.set V.im (.map me ck) ∧ (∀ d ∈ done, d ∈ chg) ∧ (done.map (·.born)).Nodup ∧ s = mk [(0, .ptr V.iv 0), (8, .iter V.ic clk ((done).map (·.born)) clk)])
    chg.length _ (le_mk _ ?_) ⟨[], mem, clk2, (congrArg List.length (List.filter_eq_self.2 fun _ _ => rfl)).symm, by simp, ⟨h5.2, h6.2, by simp, fun e he => hk32 e (.inr he), fun k => rfl⟩, (heap_set_same h3).symm, by simp, by simp, rfl⟩ ?_
  · simp only [List.forall_mem_cons, List.not_mem_nil, false_imp_iff, implies_true, and_true]
    try simp -dsimp only [Vm.G, List.lookup, Nat.reduceAdd, Nat.reduceBEq, Int.reduceBNe, Int.reduceBEq, Nat.reduceLeDiff, q142]
    repeat' first | exact Fg.refl _ | exact Fg.nil _ _ _ (by decide) | refine And.intro ?_ ?_
  · rintro m s h' ⟨done, me, ck, rfl, hlen, hK, hh, hd, hdn, rfl⟩
    have g1 : h'[V.iv]? = some (vobj V.ic V.im) := by rw [hh, List.getElem?_set_ne h4.1.symm]; exact h1
    have g2 : h'[V.ic]? = some (.map chg clk) := by rw [hh, List.getElem?_set_ne h4.2.symm]; exact h2
    have g3 : h'[V.im]? = some (.map me ck) := by rw [hh, List.getElem?_set_self (get_lt h3)]
    simp -dsimp only [Vm.G, List.lookup, Nat.reduceAdd, Nat.reduceBEq, Int.reduceBNe, Int.reduceBEq, Nat.reduceLeDiff, q142]
    refine next_intro chg clk g2 (fun e he => h6.1.2 e he) (Nat.le_refl _) (fun hlf => ?_) (fun e he => ?_)
    · have hD : done.Perm chg := seen_all h6.1.1.1 hd hdn hlf
      simp -dsimp only [Vm.G, List.lookup, Nat.reduceAdd, Nat.reduceBEq, Int.reduceBNe, Int.reduceBEq, Nat.reduceLeDiff, q142]
      rw [hh]
      exact hq me ck (hK.perm hD (fun e he => (h5.1 e he).1) h6.1.1.2)
    · obtain ⟨hem, heb⟩ := left_mem he
      obtain ⟨⟨k, hk⟩, x, l, b, hx, hl, hev⟩ := h5.1 e hem
      obtain ⟨hd2, hdn2⟩ := done_more he hd hdn
      have hless := left_less he
      have emap : (done ++ [e]).map (·.born) = done.map (·.born) ++ [e.born] := by simp
      have hkk := kOf_eq hk
      have hke : k.length ≤ 32 := by rw [← hkk]; exact hk32 e (.inl hem)
      have hkd : ∀ e ∈ done, ∃ k, e.key = strK k := fun e he => (h5.1 e (hd e he)).1
      have hnn : ((done ++ [e]).map kOf).Nodup := by
        have hdd : (done ++ [e]).Nodup := by
          exact List.Pairwise.of_map (fun e : Ent => e.born) (fun a b h e => h (by rw [e])) hdn2
        refine List.Pairwise.map kOf (fun a b hab => hab) ?_
        refine hdd.imp_of_mem fun {a b} ha hb hne => ?_
        intro e2
        exact hne (inj_of_map h6.1.1.2 (hd2 a ha) (hd2 b hb) e2)
      simp -dsimp only [Vm.G, List.lookup, Nat.reduceAdd, Nat.reduceBEq, Int.reduceBNe, Int.reduceBEq, Nat.reduceLeDiff, q142]
      refine entry_intro chg clk e g2 (find_born h6.1.1.1 hem) ?_
      simp only [hk, strK, hev]
      cases b
      · have hx0 := hx
        rcases hx with rfl | ⟨rfl, rfl⟩
        · simp -dsimp only [Vm.G, List.lookup, Nat.reduceAdd, Nat.reduceBEq, Int.reduceBNe, Int.reduceBEq, Nat.reduceLeDiff, q142]
          refine draw_cont [3] (.take 0 (.take 1 (.take 2 (.take 4 (.take 5 (.take 6 (.alt 3 (.alt 7 (.done) .stop) .stop))))))) (fun s h2 => h2 = h'.set V.im (.map (mput (strK k) (.sl 1 (l.map encB)) ck me) (mclk (strK k) me ck)) ∧ s 0 = .ptr V.iv 0 ∧ s 8 = .iter V.ic clk (done.map (·.born) ++ [e.born]) clk) (by kernel_rfl) (by kernel_rfl) (by kernel_rfl) (by decide) ?_ ?_
          · simp -dsimp only [Vm.G, List.lookup, Nat.reduceAdd, Nat.reduceBEq, Int.reduceBNe, Int.reduceBEq, Nat.reduceLeDiff, q142, g1]
            refine update_intro mt127 me ck g3 trivial (keys_str fun e he => (hK.wf e he).1) ?_
            simp -dsimp only [Vm.G, List.lookup, Nat.reduceAdd, Nat.reduceBEq, Int.reduceBNe, Int.reduceBEq, Nat.reduceLeDiff, q142]
            repeat' first | rfl | exact True.intro | refine And.intro ?_ ?_
          · rintro s h2 ⟨rfl, e0, e8⟩
            simp -dsimp only [Vm.G, List.lookup, Nat.reduceAdd, Nat.reduceBEq, Int.reduceBNe, Int.reduceBEq, Nat.reduceLeDiff, q142, e0, e8]
            refine kept_intro ⟨_, hless, _, le_mk [(0, .ptr V.iv 0), (8, .iter V.ic clk ((done ++ [e]).map (·.born)) clk)] ?_, done ++ [e], _, _, by rw [emap], by rw [List.length_append]; simp only [List.length_cons, List.length_nil]; omega, hK.put hk (by rw [hev]; exact congrArg some (bytesOf_isB hx0)) hx0 hl hke hkd hnn, by rw [hh, List.set_set], hd2, hdn2, rfl⟩
            simp only [List.forall_mem_cons, List.not_mem_nil, false_imp_iff, implies_true, and_true, emap, e0, e8]
            try simp -dsimp only [Vm.G, List.lookup, Nat.reduceAdd, Nat.reduceBEq, Int.reduceBNe, Int.reduceBEq, Nat.reduceLeDiff, q142, emap, e0, e8]
            repeat' first | exact Fg.refl _ | exact Fg.nil _ _ _ (by decide) | refine And.intro ?_ ?_
        · simp -dsimp only [Vm.G, List.lookup, Nat.reduceAdd, Nat.reduceBEq, Int.reduceBNe, Int.reduceBEq, Nat.reduceLeDiff, q142]
          refine draw_cont [3] (.take 0 (.take 1 (.take 2 (.take 4 (.take 5 (.take 6 (.alt 3 (.alt 7 (.done) .stop) .stop))))))) (fun s h2 => h2 = h'.set V.im (.map (mput (strK k) (.v (.slice none 0 0)) ck me) (mclk (strK k) me ck)) ∧ s 0 = .ptr V.iv 0 ∧ s 8 = .iter V.ic clk (done.map (·.born) ++ [e.born]) clk) (by kernel_rfl) (by kernel_rfl) (by kernel_rfl) (by decide) ?_ ?_
          · simp -dsimp only [Vm.G, List.lookup, Nat.reduceAdd, Nat.reduceBEq, Int.reduceBNe, Int.reduceBEq, Nat.reduceLeDiff, q142, g1]
            refine update_intro mt127 me ck g3 trivial (keys_str fun e he => (hK.wf e he).1) ?_
            simp -dsimp only [Vm.G, List.lookup, Nat.reduceAdd, Nat.reduceBEq, Int.reduceBNe, Int.reduceBEq, Nat.reduceLeDiff, q142]
            repeat' first | rfl | exact True.intro | refine And.intro ?_ ?_
          · rintro s h2 ⟨rfl, e0, e8⟩
            simp -dsimp only [Vm.G, List.lookup, Nat.reduceAdd, Nat.reduceBEq, Int.reduceBNe, Int.reduceBEq, Nat.reduceLeDiff, q142, e0, e8]
            refine kept_intro ⟨_, hless, _, le_mk [(0, .ptr V.iv 0), (8, .iter V.ic clk ((done ++ [e]).map (·.born)) clk)] ?_, done ++ [e], _, _, by rw [emap], by rw [List.length_append]; simp only [List.length_cons, List.length_nil]; omega, hK.put hk (by rw [hev]; exact congrArg some (bytesOf_isB hx0)) hx0 hl hke hkd hnn, by rw [hh, List.set_set], hd2, hdn2, rfl⟩
            simp only [List.forall_mem_cons, List.not_mem_nil, false_imp_iff, implies_true, and_true, emap, e0, e8]
            try simp -dsimp only [Vm.G, List.lookup, Nat.reduceAdd, Nat.reduceBEq, Int.reduceBNe, Int.reduceBEq, Nat.reduceLeDiff, q142, emap, e0, e8]
            repeat' first | exact Fg.refl _ | exact Fg.nil _ _ _ (by decide) | refine And.intro ?_ ?_
      · have hx0 := hx
        have hs : shapeOf e.val = none := by rw [hev]; rfl
        rcases hx with rfl | ⟨rfl, rfl⟩
        · simp -dsimp only [Vm.G, List.lookup, Nat.reduceAdd, Nat.reduceBEq, Int.reduceBNe, Int.reduceBEq, Nat.reduceLeDiff, q142, g1]
          refine delete_intro mt127 me ck g3 trivial (keys_str fun e he => (hK.wf e he).1) ?_
          simp -dsimp only [Vm.G, List.lookup, Nat.reduceAdd, Nat.reduceBEq, Int.reduceBNe, Int.reduceBEq, Nat.reduceLeDiff, q142]
          refine kept_intro ⟨_, hless, _, le_mk [(0, .ptr V.iv 0), (8, .iter V.ic clk ((done ++ [e]).map (·.born)) clk)] ?_, done ++ [e], _, _, by rw [emap], by rw [List.length_append]; simp only [List.length_cons, List.length_nil]; omega, hK.del hk hs hkd hnn, by rw [hh, List.set_set]; rfl, hd2, hdn2, rfl⟩
          simp only [List.forall_mem_cons, List.not_mem_nil, false_imp_iff, implies_true, and_true, emap]
          try simp -dsimp only [Vm.G, List.lookup, Nat.reduceAdd, Nat.reduceBEq, Int.reduceBNe, Int.reduceBEq, Nat.reduceLeDiff, q142, emap]
          repeat' first | exact Fg.refl _ | exact Fg.nil _ _ _ (by decide) | refine And.intro ?_ ?_
        · simp -dsimp only [Vm.G, List.lookup, Nat.reduceAdd, Nat.reduceBEq, Int.reduceBNe, Int.reduceBEq, Nat.reduceLeDiff, q142, g1]
          refine delete_intro mt127 me ck g3 trivial (keys_str fun e he => (hK.wf e he).1) ?_
          simp -dsimp only [Vm.G, List.lookup, Nat.reduceAdd, Nat.reduceBEq, Int.reduceBNe, Int.reduceBEq, Nat.reduceLeDiff, q142]
          refine kept_intro ⟨_, hless, _, le_mk [(0, .ptr V.iv 0), (8, .iter V.ic clk ((done ++ [e]).map (·.born)) clk)] ?_, done ++ [e], _, _, by rw [emap], by rw [List.length_append]; simp only [List.length_cons, List.length_nil]; omega, hK.del hk hs hkd hnn, by rw [hh, List.set_set]; rfl, hd2, hdn2, rfl⟩
          simp only [List.forall_mem_cons, List.not_mem_nil, false_imp_iff, implies_true, and_true, emap]
          try simp -dsimp only [Vm.G, List.lookup, Nat.reduceAdd, Nat.reduceBEq, Int.reduceBNe, Int.reduceBEq, Nat.reduceLeDiff, q142, emap]
          repeat' first | exact Fg.refl _ | exact Fg.nil _ _ _ (by decide) | refine And.intro ?_ ?_
def commitSpec : Vm.Spec := fun args h Q => ∃ (V : VId) (f : Fun), args = [.ptr V.iv 0] ∧ isView h V f ∧ f.n ≤ 536870912 ∧ ∀ h', isView h' V f → memV h' V f → Same h h' [V.ic, V.im] → Q (.v (.int .i64 0)) h'
set_option maxHeartbeats 1000000 in
theorem does_commit : Does Tryz.prog 65 commitSpec := by
  refine does_of_awp (good_cons does_vready (good_cons does_changes (good_cons does_keep good_nil))) Tryz.func65 rfl (by decide +kernel) (by decide +kernel) ?_
  rintro args h Q ⟨V, f, rfl, hV, hfn, hq⟩
  refine ⟨by simp [Tryz.f65], ?_⟩
  rw [awpFunc_some (by rfl)]
  have hV0 := hV
  obtain ⟨chg, clk, mem, clk2, h1, h2, h3, h4, h5, h6, h7, hlen, hk32⟩ := hV
  simp -dsimp only [Vm.G, List.lookup, Nat.reduceAdd, Nat.reduceBEq, Int.reduceBNe, Int.reduceBEq, Nat.reduceLeDiff, q65]
  refine call_one (S := vreadySpec) rfl _ GaL.rfl ⟨V.iv, V.ic, _, rfl, h1, ?_⟩
  simp -dsimp only [Vm.G, List.lookup, Nat.reduceAdd, Nat.reduceBEq, Int.reduceBNe, Int.reduceBEq, Nat.reduceLeDiff, q65]
  refine call_one (S := changesSpec) rfl _ GaL.rfl ⟨V, f, rfl, hV0, hfn, fun p d => ?_⟩
  simp -dsimp only [Vm.G, List.lookup, Nat.reduceAdd, Nat.reduceBEq, Int.reduceBNe, Int.reduceBEq, Nat.reduceLeDiff, q65, h1, bne_self_eq_false]
  refine nil_pointer Tryz.underlying124 ?_
  simp -dsimp only [Vm.G, List.lookup, Nat.reduceAdd, Nat.reduceBEq, Int.reduceBNe, Int.reduceBEq, Nat.reduceLeDiff, q65]
  refine call_one (S := keepSpec) rfl _ GaL.rfl ⟨V, chg, mem, clk, clk2, rfl, h1, h2, h3, ⟨h4.2.1, h4.2.2⟩, h5, h6, hk32, fun me ck hK => ?_⟩
  have g1 : (h.set V.im (.map me ck))[V.iv]? = some (vobj V.ic V.im) := by rw [List.getElem?_set_ne h4.2.1.symm]; exact h1
  have g2 : (h.set V.im (.map me ck))[V.ic]? = some (.map chg clk) := by rw [List.getElem?_set_ne h4.2.2.symm]; exact h2
  have g3 : (h.set V.im (.map me ck))[V.im]? = some (.map me ck) := List.getElem?_set_self (get_lt h3)
  have hsame : Same h (h.set V.im (.map me ck)) [V.ic, V.im] := ⟨by simp, fun i _ hi => List.getElem?_set_ne (by simp at hi; omega)⟩
  generalize h.set V.im (.map me ck) = hh at g1 g2 g3 hsame ⊢
  simp -dsimp only [Vm.G, List.lookup, Nat.reduceAdd, Nat.reduceBEq, Int.reduceBNe, Int.reduceBEq, Nat.reduceLeDiff, q65, g1]
  refine clear_intro mt126 chg clk g2 ?_
  simp -dsimp only [Vm.G, List.lookup, Nat.reduceAdd, Nat.reduceBEq, Int.reduceBNe, Int.reduceBEq, Nat.reduceLeDiff, q65]
  have k1 : (hh.set V.ic (.map [] clk))[V.iv]? = some (vobj V.ic V.im) := by rw [List.getElem?_set_ne h4.1.symm]; exact g1
  have k2 : (hh.set V.ic (.map [] clk))[V.ic]? = some (.map [] clk) := List.getElem?_set_self (get_lt g2)
  have k3 : (hh.set V.ic (.map [] clk))[V.im]? = some (.map me ck) := by rw [List.getElem?_set_ne h4.2.2]; exact g3
  have hn : ∀ k, f k = memOf me k := fun k => by rw [hK.now k]; exact h7 k
  have hl : me.length ≤ f.n := by have := hK.len; omega
  refine hq _ ⟨[], clk, me, ck, k1, k2, k3, h4, ⟨by simp, hK.wf⟩, ⟨⟨⟨.nil, .nil⟩, by simp⟩, hK.born⟩, hn, by simpa using hl, fun e he => ?_⟩ ⟨me, ck, k3, hn, hl⟩ (hsame.trans ⟨by simp, fun i _ hi => List.getElem?_set_ne (by simp at hi; omega)⟩)
  rcases he with he | he
  · simp at he
  · exact hK.short e he
def abortSpec : Vm.Spec := fun args h Q => ∃ (V : VId) (f g : Fun), args = [.ptr V.iv 0] ∧ isView h V f ∧ memV h V g ∧ ∀ h', isView h' V g → memV h' V g → Same h h' [V.ic] → Q (.tup []) h'
theorem does_abort : Does Tryz.prog 67 abortSpec := by
  refine does_of_awp (good_cons does_vready good_nil) Tryz.func67 rfl (by decide +kernel) (by decide +kernel) ?_
  rintro args h Q ⟨V, f, g, rfl, ⟨chg, clk, mem, clk2, h1, h2, h3, h4, h5, h6, h7, hlen, hk32⟩, ⟨mem', ck', hm1, hm2, hm3⟩, hq⟩
  refine ⟨by simp [Tryz.f67], ?_⟩
  rw [awpFunc_some (by rfl)]
  rw [h3] at hm1
  cases hm1
  simp -dsimp only [Vm.G, List.lookup, Nat.reduceAdd, Nat.reduceBEq, Int.reduceBNe, Int.reduceBEq, Nat.reduceLeDiff, q67]
  refine call_one (S := vreadySpec) rfl _ GaL.rfl ⟨V.iv, V.ic, _, rfl, h1, ?_⟩
  simp -dsimp only [Vm.G, List.lookup, Nat.reduceAdd, Nat.reduceBEq, Int.reduceBNe, Int.reduceBEq, Nat.reduceLeDiff, q67, h1]
  refine clear_intro mt126 chg clk h2 ?_
  have k1 : (h.set V.ic (.map [] clk))[V.iv]? = some (vobj V.ic V.im) := by rw [List.getElem?_set_ne h4.1.symm]; exact h1
  have k2 : (h.set V.ic (.map [] clk))[V.ic]? = some (.map [] clk) := List.getElem?_set_self (get_lt h2)
  have k3 : (h.set V.ic (.map [] clk))[V.im]? = some (.map mem clk2) := by rw [List.getElem?_set_ne h4.2.2]; exact h3
  have hsame : Same h (h.set V.ic (.map [] clk)) [V.ic] := Same.set _ _ _
  generalize h.set V.ic (.map [] clk) = hh at k1 k2 k3 hsame ⊢
  simp -dsimp only [Vm.E, List.lookup, Nat.reduceAdd, Nat.reduceBEq, Int.reduceBNe, Int.reduceBEq, Bool.true_beq, Bool.false_beq, q67, k1]
  refine store_ptr _ k1 rfl rfl (by simp) ?_
  simp -dsimp only [Vm.G, List.lookup, Nat.reduceAdd, Nat.reduceBEq, Int.reduceBNe, Int.reduceBEq, Nat.reduceLeDiff, q67]
  rw [heap_set_same k1]
  refine hq hh ⟨[], clk, mem, clk2, k1, k2, k3, h4, ⟨by simp, h5.2⟩, ⟨⟨⟨.nil, .nil⟩, by simp⟩, h6.2⟩, hm2, by simpa using hm3, fun e he => ?_⟩ ⟨mem, clk2, k3, hm2, hm3⟩ hsame
  rcases he with he | he
  · simp at he
  · exact hk32 e (.inr he)
end Go.Proofs.Lx
/- Charges and pre-encumbrances, the reference's: ref29, ref31. -/
set_option linter.unusedSimpArgs false
set_option linter.unusedVariables false
namespace Go.Proofs.Lx
open Go.Vm
attribute [local irreducible] awpArr awpBin awpMake awpAppend awpCvX awpStrOf awpBinX awpSlice awpBS awpStore awpAlloc awpCopy awpIndex awpDraw awpIdxX awpFa awpField awpLookup awpUpdate awpDelete awpClear awpRange awpNext awpEntry awpBuild awpClearS awpIdxL awpTree appB awpIdxO eltA treeA
attribute [local irreducible] chargeOf chargeG docsPut
end Go.Proofs.Lx
/- Two views beside, committed and forgotten: the law PreNew. -/
set_option linter.unusedSimpArgs false
set_option linter.unusedVariables false
namespace Go.Proofs.Lx
open Go.Vm
attribute [local irreducible] awpArr awpBin awpMake awpAppend awpCvX awpStrOf awpBinX awpSlice awpBS awpStore awpAlloc awpCopy awpIndex awpDraw awpIdxX awpFa awpField awpLookup awpUpdate awpDelete awpClear awpRange awpNext awpEntry awpBuild awpClearS awpIdxL awpTree appB awpIdxO eltA treeA
def vnewWSpec : Vm.Spec := fun args h Q => args = [nilP] ∧ ∀ (V : VId) (h' : Heap), isView h' V noF → memV h' V noF → Q (.ptr V.iv 0) h'
theorem does_vnewW : Does Tryz.prog 13 vnewWSpec := does_vnew.imp (by
  rintro args h Q ⟨rfl, hq⟩
  refine ⟨rfl, hq ⟨h.length + 2, h.length, h.length + 1⟩ _ (isView_new h) ⟨[], 0, ?_, fun k => rfl, by simp⟩⟩
  rw [List.getElem?_append_right (by simp)]; simp)
structure Dop where
  year : Int
  frm : Int
  lines : List Ln
def Dop.ok (k : Dop) : Prop := I64 k.year ∧ I64 k.frm ∧ ∀ x ∈ k.lines, x.ok
end Go.Proofs.Lx
/- The law CtrlLess. -/
set_option linter.unusedSimpArgs false
set_option linter.unusedVariables false
namespace Go.Proofs.Lx
open Go.Vm
attribute [local irreducible] awpArr awpBin awpMake awpAppend awpCvX awpStrOf awpBinX awpSlice awpBS awpStore awpAlloc awpCopy awpIndex awpDraw awpIdxX awpFa awpField awpLookup awpUpdate awpDelete awpClear awpRange awpNext awpEntry awpBuild
def isTrue : Vm.Spec := fun args h Q => args = [] ∧ ∀ h', Q (.v (.bool true)) h'
def nd1 : Nd := { Nd.zero with year := 2020, id := 1, abs := true, limit := 9 }
def nd2 : Nd := { Nd.zero with year := 2020, id := 2, parent := 1, limit := 4 }
def ndF : Fun := upd (upd noF (ndK nd1) (some (ndV nd1))) (ndK nd2) (some (ndV nd2))
theorem charge_first : (chargeOf ndF 2020 2 ⟨5, 0, 0⟩).2 = (true, 0) := by decide +kernel
theorem charge_second : (chargeOf (chargeOf ndF 2020 2 ⟨5, 0, 0⟩).1 2020 2 ⟨5, 0, 0⟩).2.2 = 11 := by decide +kernel
theorem allows_awake : allowsOf { Nd.zero with limit := 5 } 6 = (true, true) := by decide +kernel
theorem nd1_ok : nd1.ok := by simp [Nd.ok, nd1, Nd.zero, I64]
theorem nd2_ok : nd2.ok := by simp [Nd.ok, nd2, Nd.zero, I64]
set_option maxRecDepth 20000 in
theorem does_law29awake : Does Tryz.prog 63 isTrue := by
  refine does_of_awp (good_cons does_vnew (good_cons does_tput (good_cons does_charge (good_cons does_allows good_nil)))) Tryz.func63 rfl (by decide +kernel) (by decide +kernel) ?_
  rintro args h Q ⟨rfl, hq⟩
  refine ⟨by simp [Tryz.f63], ?_⟩
  rw [awpFunc_some (by rfl)]
  simp -dsimp only [Vm.E, List.lookup, Nat.reduceAdd, Nat.reduceBEq, Int.reduceBNe, Int.reduceBEq, Bool.true_beq, Bool.false_beq]
  refine call_one (S := vnewSpec) rfl _ GaL.rfl ⟨rfl, ?_⟩
  have hV := isView_new h
  generalize hh : (h ++ [AObj.map [] 0, AObj.map [] 0, vobj h.length (h.length + 1)]) = h0 at hV ⊢
  simp -dsimp only [Vm.E, List.lookup, Nat.reduceAdd, Nat.reduceBEq, Int.reduceBNe, Int.reduceBEq, Bool.true_beq, Bool.false_beq]
  refine nil_pointer Tryz.underlying24 ?_
  simp -dsimp only [Vm.G, List.lookup, Nat.reduceAdd, Nat.reduceBEq, Int.reduceBNe, Int.reduceBEq, Nat.reduceLeDiff, bd93]
  refine call_one (S := tputSpec) rfl _ GaL.rfl ⟨⟨h.length + 2, h.length, h.length + 1⟩, _, nd1, rfl, nd1_ok, hV, fun h1 hV1 _ => ?_⟩
  simp -dsimp only [Vm.G, List.lookup, Nat.reduceAdd, Nat.reduceBEq, Int.reduceBNe, Int.reduceBEq, Nat.reduceLeDiff, bd93, bne_self_eq_false]
  refine call_one (S := tputSpec) rfl _ GaL.rfl ⟨⟨h.length + 2, h.length, h.length + 1⟩, _, nd2, rfl, nd2_ok, hV1, fun h2 hV2 _ => ?_⟩
  simp -dsimp only [Vm.G, List.lookup, Nat.reduceAdd, Nat.reduceBEq, Int.reduceBNe, Int.reduceBEq, Nat.reduceLeDiff, bne_self_eq_false]
  have hV2 : isView h2 ⟨h.length + 2, h.length, h.length + 1⟩ ndF := hV2
  have k1 := charge_first
  have k2 := charge_second
  generalize ndF = f0 at hV2 k1 k2
  refine call_one (S := chargeSpec) rfl _ GaL.rfl ⟨⟨h.length + 2, h.length, h.length + 1⟩, f0, 2020, 2, ⟨5, 0, 0⟩, rfl, hV2, fun h3 hV3 _ => ?_⟩
  rw [k1]
  generalize (chargeOf f0 2020 2 ⟨5, 0, 0⟩).1 = f1 at hV3 k2
  simp -dsimp only [Vm.E, List.lookup, Nat.reduceAdd, Nat.reduceBEq, Int.reduceBNe, Int.reduceBEq, Bool.true_beq, Bool.false_beq]
  refine call_one (S := chargeSpec) rfl _ GaL.rfl ⟨⟨h.length + 2, h.length, h.length + 1⟩, f1, 2020, 2, ⟨5, 0, 0⟩, rfl, hV3, fun h4 hV4 _ => ?_⟩
  rw [k2]
  simp -dsimp only [Vm.G, List.lookup, Nat.reduceAdd, Nat.reduceBEq, Int.reduceBNe, Int.reduceBEq, Nat.reduceLeDiff, bd93]
  refine call_one (S := allowsSpec) rfl _ GaL.rfl ⟨{ Nd.zero with limit := 5 }, 6, rfl, ?_⟩
  rw [allows_awake]
  simp -dsimp only [Vm.E, List.lookup, Nat.reduceAdd, Nat.reduceBEq, Int.reduceBNe, Int.reduceBEq, Bool.true_beq, Bool.false_beq, Tryz.results63]
  exact hq _
end Go.Proofs.Lx
/- The law CtrlHolds. -/
set_option linter.unusedSimpArgs false
set_option linter.unusedVariables false
namespace Go.Proofs.Lx
open Go.Vm
attribute [local irreducible] awpArr awpBin awpMake awpAppend awpCvX awpStrOf awpBinX awpSlice awpBS awpStore awpAlloc awpCopy awpIndex awpDraw awpIdxX awpFa awpField awpLookup awpUpdate awpDelete awpClear awpRange awpNext awpEntry awpBuild awpClearS awpIdxL awpTree appB awpIdxO eltA treeA
structure Dch where
  id : Int
  pre : Int
  enc : Int
  exp : Int
def dchAv (k : Dch) : AV := .agg [.v (.int .i64 k.id), .v (.int .i64 k.pre), .v (.int .i64 k.enc), .v (.int .i64 k.exp)]
def zN (n : Nd) : Nd := { n with year := 2020, pre := 0, enc := 0, exp := 0 }
theorem zN_ok {n : Nd} (h : n.ok) : (zN n).ok := by
  obtain ⟨h1, h2, h3, h4, h5, h6, h7, h8, h9, h10, h11⟩ := h
  have z : I64 0 := by unfold I64; omega
  exact ⟨by show I64 2020; unfold I64; omega, h2, h3, h4, h5, h6, z, z, z, h10, h11⟩
def holdsSpec : Vm.Spec := fun args h Q => ∃ (ns : List Nd) (l : List Dch), ns.length ≤ 9223372036854775807 ∧ l.length ≤ 9223372036854775807 ∧ (∀ n ∈ ns, n.ok) ∧ args = [.sl 12 (ns.map ndAv), .sl 4 (l.map dchAv)] ∧ ∀ h', Q (.v (.bool true)) h'
set_option maxRecDepth 20000 in
set_option maxHeartbeats 8000000 in
theorem does_holds : Does Tryz.prog 9 holdsSpec := by
  refine does_of_awp (good_cons does_law29awake (good_cons does_vnewW (good_cons does_tput (good_cons does_commit (good_cons does_tall (good_cons does_charge (good_cons does_abort (good_cons does_used good_nil)))))))) Tryz.func9 rfl (by decide +kernel) (by decide +kernel) ?_
  rintro args h Q ⟨ns, l, hns, hl, hnok, rfl, hq⟩
  refine ⟨by simp [Tryz.f9], ?_⟩
  rw [awpFunc_some (by rfl)]
  simp -dsimp only [Vm.G, List.lookup, Nat.reduceAdd, Nat.reduceBEq, Int.reduceBNe, Int.reduceBEq, Nat.reduceLeDiff, q9]
  have h1 := Bool.eq_false_or_eq_true (decide ((ns.length : Int) > 30))
  rcases h1 with c1 | c1
  · simp -dsimp only [Vm.G, List.lookup, Nat.reduceAdd, Nat.reduceBEq, Int.reduceBNe, Int.reduceBEq, Nat.reduceLeDiff, q9, c1]
    refine call_one (S := isTrue) rfl _ GaL.rfl ⟨rfl, fun hz => ?_⟩
    simp -dsimp only [Vm.G, List.lookup, Nat.reduceAdd, Nat.reduceBEq, Int.reduceBNe, Int.reduceBEq, Nat.reduceLeDiff, q9]
    exact hq _
  · have d1 := of_decide_eq_false c1
    simp -dsimp only [Vm.G, List.lookup, Nat.reduceAdd, Nat.reduceBEq, Int.reduceBNe, Int.reduceBEq, Nat.reduceLeDiff, q9, c1]
    have h2 := Bool.eq_false_or_eq_true (decide ((l.length : Int) > 30))
    rcases h2 with c2 | c2
    · simp -dsimp only [Vm.G, List.lookup, Nat.reduceAdd, Nat.reduceBEq, Int.reduceBNe, Int.reduceBEq, Nat.reduceLeDiff, q9, c2]
      refine call_one (S := isTrue) rfl _ GaL.rfl ⟨rfl, fun hz => ?_⟩
      simp -dsimp only [Vm.G, List.lookup, Nat.reduceAdd, Nat.reduceBEq, Int.reduceBNe, Int.reduceBEq, Nat.reduceLeDiff, q9]
      exact hq _
    · have d2 := of_decide_eq_false c2
      simp -dsimp only [Vm.G, List.lookup, Nat.reduceAdd, Nat.reduceBEq, Int.reduceBNe, Int.reduceBEq, Nat.reduceLeDiff, q9, c2]
      refine call_one (S := vnewWSpec) rfl _ GaL.rfl ⟨rfl, fun V h0 hV hm => ?_⟩
      simp -dsimp only [Vm.G, List.lookup, Nat.reduceAdd, Nat.reduceBEq, Int.reduceBNe, Int.reduceBEq, Nat.reduceLeDiff, q9]
      refine awp_loop (fun m s h' => ∃ (i : Nat) (f : Fun), i + m = ns.length ∧ isView h' V f ∧ memV h' V noF ∧ f.n ≤ i ∧ s = mk [(1, .sl 4 (l.map dchAv)), (5, .ptr V.iv 0), (27, .sl 12 (ns.map ndAv)), (28, .v (.int .i64 ns.length)), (29, .v (.int .i64 (i : Nat)))])
        ns.length _ (le_mk _ ?_) ⟨0, noF, by omega, hV, hm, Nat.le_refl _, rfl⟩ ?_
      · simp only [List.forall_mem_cons, List.not_mem_nil, false_imp_iff, implies_true, and_true]
        try simp -dsimp only [Vm.G, List.lookup, Nat.reduceAdd, Nat.reduceBEq, Int.reduceBNe, Int.reduceBEq, Nat.reduceLeDiff, q9]
        repeat' first | exact Fg.refl _ | exact Fg.nil _ _ _ (by decide) | refine And.intro ?_ ?_
      · clear hV hm
        rintro m s h' ⟨i, f, hi, hV, hm, hfn, rfl⟩
        simp -dsimp only [Vm.G, List.lookup, Nat.reduceAdd, Nat.reduceBEq, Int.reduceBNe, Int.reduceBEq, Nat.reduceLeDiff, q9]
        refine cond_intro (fun hcc => ?_) (fun hcc => ?_)
        · have hlt : i < ns.length := by have := of_decide_eq_true hcc; omega
          have hw : IntKind.i64.wrap ((i : Int) + 1) = ((i + 1 : Nat) : Int) := by rw [wrap_i64 (by omega) (by omega)]; simp
          have ho := zN_ok (hnok ns[i] (List.getElem_mem hlt))
          simp -dsimp only [Vm.G, List.lookup, Nat.reduceAdd, Nat.reduceBEq, Int.reduceBNe, Int.reduceBEq, Nat.reduceLeDiff, q9]
          refine idx_map ndAv ns i hlt ?_
          generalize ns[i] = n at ho
          simp only [ndAv, ndCells]
          simp -dsimp only [Vm.G, List.lookup, Nat.reduceAdd, Nat.reduceBEq, Int.reduceBNe, Int.reduceBEq, Nat.reduceLeDiff, q9, AV.cells]
          refine call_one (S := tputSpec) rfl _ GaL.rfl ⟨V, f, zN n, rfl, ho, hV, fun h2 g1 g2 => ?_⟩
          have hm2 := hm.same g2 (by simp [Ne.symm hV.ne.2.2])
          simp -dsimp only [Vm.G, List.lookup, Nat.reduceAdd, Nat.reduceBEq, Int.reduceBNe, Int.reduceBEq, Nat.reduceLeDiff, q9]
          refine kept_intro ⟨ns.length - (i + 1), by omega, _, le_mk [(1, .sl 4 (l.map dchAv)), (5, .ptr V.iv 0), (27, .sl 12 (ns.map ndAv)), (28, .v (.int .i64 ns.length)), (29, .v (.int .i64 (i + 1 : Nat)))] ?_, i + 1, _, by omega, g1, hm2, by show f.n + 1 ≤ _; omega, rfl⟩
          simp only [List.forall_mem_cons, List.not_mem_nil, false_imp_iff, implies_true, and_true, hw]
          try simp -dsimp only [Vm.G, List.lookup, Nat.reduceAdd, Nat.reduceBEq, Int.reduceBNe, Int.reduceBEq, Nat.reduceLeDiff, q9, hw]
          repeat' first | exact Fg.refl _ | exact Fg.nil _ _ _ (by decide) | refine And.intro ?_ ?_
        · have hge : ¬ i < ns.length := by have := of_decide_eq_false hcc; omega
          clear hcc
          simp -dsimp only [Vm.G, List.lookup, Nat.reduceAdd, Nat.reduceBEq, Int.reduceBNe, Int.reduceBEq, Nat.reduceLeDiff, q9]
          refine awp_loop (fun m s h' => ∃ (i : Nat) (f g : Fun), i + m = l.length ∧ isView h' V f ∧ memV h' V g ∧ f.n ≤ 30 + 8 * i ∧ g.n ≤ 30 + 8 * i ∧ s = mk [(5, .ptr V.iv 0), (41, .sl 4 (l.map dchAv)), (42, .v (.int .i64 l.length)), (43, .v (.int .i64 (i : Nat)))])
            l.length _ (le_mk _ ?_) ⟨0, f, noF, by omega, hV, hm, by omega, Nat.zero_le _, rfl⟩ ?_
          · simp only [List.forall_mem_cons, List.not_mem_nil, false_imp_iff, implies_true, and_true]
            try simp -dsimp only [Vm.G, List.lookup, Nat.reduceAdd, Nat.reduceBEq, Int.reduceBNe, Int.reduceBEq, Nat.reduceLeDiff, q9]
            repeat' first | exact Fg.refl _ | exact Fg.nil _ _ _ (by decide) | refine And.intro ?_ ?_
          · clear hV hm hfn hi hge
            rintro m s h' ⟨i, f, g, hi, hV, hm, hfn, hgn, rfl⟩
            simp -dsimp only [Vm.G, List.lookup, Nat.reduceAdd, Nat.reduceBEq, Int.reduceBNe, Int.reduceBEq, Nat.reduceLeDiff, q9]
            refine cond_intro (fun hcc => ?_) (fun hcc => ?_)
            · have hlt : i < l.length := by have := of_decide_eq_true hcc; omega
              have hw : IntKind.i64.wrap ((i : Int) + 1) = ((i + 1 : Nat) : Int) := by rw [wrap_i64 (by omega) (by omega)]; simp
              have hxe : ∃ k, l[i] = k := ⟨_, rfl⟩
              rcases hxe with ⟨k, hkx⟩
              simp -dsimp only [Vm.G, List.lookup, Nat.reduceAdd, Nat.reduceBEq, Int.reduceBNe, Int.reduceBEq, Nat.reduceLeDiff, q9]
              refine idx_map dchAv l i hlt ?_
              simp only [hkx, dchAv]
              simp -dsimp only [Vm.G, List.lookup, Nat.reduceAdd, Nat.reduceBEq, Int.reduceBNe, Int.reduceBEq, Nat.reduceLeDiff, q9, AV.cells]
              refine call_one (S := commitSpec) rfl _ GaL.rfl ⟨V, f, rfl, hV, by omega, fun h2 g1 g2 g3 => ?_⟩
              simp -dsimp only [Vm.G, List.lookup, Nat.reduceAdd, Nat.reduceBEq, Int.reduceBNe, Int.reduceBEq, Nat.reduceLeDiff, q9]
              refine call_one (S := tallSpec) rfl _ GaL.rfl ⟨V, f, 2020, rfl, g1, by omega, fun kv h3 hsc hkl hV3 hs3 => ?_⟩
              have hm3 := g2.same hs3 (by simp)
              have hcn := chargeOf_n f 2020 k.id ⟨k.pre, k.enc, k.exp⟩
              have hal : (allN 2020 kv).length ≤ kv.length := List.length_filterMap_le ..
              simp -dsimp only [Vm.G, List.lookup, Nat.reduceAdd, Nat.reduceBEq, Int.reduceBNe, Int.reduceBEq, Nat.reduceLeDiff, q9]
              refine call_one (S := chargeSpec) rfl _ GaL.rfl ⟨V, f, 2020, k.id, ⟨k.pre, k.enc, k.exp⟩, rfl, hV3, fun h4 m1 m2 => ?_⟩
              have hm4 := hm3.same m2 (by simp [Ne.symm hV3.ne.2.2])
              have hrel : ∀ kv2, (chargeOf f 2020 k.id ⟨k.pre, k.enc, k.exp⟩).2.2 = 0 → ScanIs (chargeOf f 2020 k.id ⟨k.pre, k.enc, k.exp⟩).1 (keyOf 78 [2020]) kv2 → chgRight ⟨k.pre, k.enc, k.exp⟩ = true ∧ All2 (ChgRel ⟨k.pre, k.enc, k.exp⟩ (chargeOf f 2020 k.id ⟨k.pre, k.enc, k.exp⟩).2.1) (allN 2020 kv) (allN 2020 kv2) := fun kv2 he h2 => charge_rel he hsc h2
              generalize chargeOf f 2020 k.id ⟨k.pre, k.enc, k.exp⟩ = q at hcn hrel m1 ⊢
              generalize hA : allN 2020 kv = A at hrel hal ⊢
              rcases q with ⟨qf, w, qe⟩
              simp only at hcn hrel m1 ⊢
              simp -dsimp only [Vm.G, List.lookup, Nat.reduceAdd, Nat.reduceBEq, Int.reduceBNe, Int.reduceBEq, Nat.reduceLeDiff, q9]
              have h5 := Bool.eq_false_or_eq_true (qe != 0)
              rcases h5 with c5 | c5
              · simp -dsimp only [Vm.G, List.lookup, Nat.reduceAdd, Nat.reduceBEq, Int.reduceBNe, Int.reduceBEq, Nat.reduceLeDiff, q9, c5]
                refine call_one (S := abortSpec) rfl _ GaL.rfl ⟨V, qf, f, rfl, m1, hm4, fun h5 k1 k2 k3 => ?_⟩
                simp -dsimp only [Vm.G, List.lookup, Nat.reduceAdd, Nat.reduceBEq, Int.reduceBNe, Int.reduceBEq, Nat.reduceLeDiff, q9]
                refine kept_intro ⟨l.length - (i + 1), by omega, _, le_mk [(5, .ptr V.iv 0), (41, .sl 4 (l.map dchAv)), (42, .v (.int .i64 l.length)), (43, .v (.int .i64 (i + 1 : Nat)))] ?_, i + 1, f, f, by omega, k1, k2, by omega, by omega, rfl⟩
                simp only [List.forall_mem_cons, List.not_mem_nil, false_imp_iff, implies_true, and_true, hw]
                try simp -dsimp only [Vm.G, List.lookup, Nat.reduceAdd, Nat.reduceBEq, Int.reduceBNe, Int.reduceBEq, Nat.reduceLeDiff, q9, hw]
                repeat' first | exact Fg.refl _ | exact Fg.nil _ _ _ (by decide) | refine And.intro ?_ ?_
              · have d5 : qe = 0 := by simpa using c5
                simp -dsimp only [Vm.G, List.lookup, Nat.reduceAdd, Nat.reduceBEq, Int.reduceBNe, Int.reduceBEq, Nat.reduceLeDiff, q9, c5]
                refine call_one (S := tallSpec) rfl _ GaL.rfl ⟨V, qf, 2020, rfl, m1, by omega, fun kv2 h5 hsc2 hkl2 hV5 hs5 => ?_⟩
                have hm5 := hm4.same hs5 (by simp)
                have hr2 := hrel kv2 d5 hsc2
                have hbl : (allN 2020 kv2).length ≤ kv2.length := List.length_filterMap_le ..
                generalize hB : allN 2020 kv2 = B at hr2 hbl ⊢
                rcases hr2 with ⟨hcr, hAB⟩
                have hlen := hAB.len
                clear hrel
                simp -dsimp only [Vm.G, List.lookup, Nat.reduceAdd, Nat.reduceBEq, Int.reduceBNe, Int.reduceBEq, Nat.reduceLeDiff, q9]
                refine awp_loop (fun m s h' => ∃ j : Nat, j + m = B.length ∧ h' = h5 ∧ s = mk [(5, .ptr V.iv 0), (10, .own true 93 12 (A.map ndAv)), (11, .v (.bool w)), (41, .sl 4 (l.map dchAv)), (42, .v (.int .i64 l.length)), (43, .v (.int .i64 (i : Nat))), (69, .own true 93 12 (B.map ndAv)), (70, .v (.int .i64 B.length)), (71, .v (.int .i64 (j : Nat)))])
                  B.length _ (le_mk _ ?_) ⟨0, by omega, rfl, rfl⟩ ?_
                · simp only [List.forall_mem_cons, List.not_mem_nil, false_imp_iff, implies_true, and_true]
                  try simp -dsimp only [Vm.G, List.lookup, Nat.reduceAdd, Nat.reduceBEq, Int.reduceBNe, Int.reduceBEq, Nat.reduceLeDiff, q9]
                  repeat' first | exact Fg.refl _ | exact Fg.nil _ _ _ (by decide) | refine And.intro ?_ ?_
                · rintro m s h6 ⟨j, hj, rfl, rfl⟩
                  have hwj : IntKind.i64.wrap ((j : Int) + 1) = ((j + 1 : Nat) : Int) := by rw [wrap_i64 (by omega) (by omega)]; simp
                  simp -dsimp only [Vm.G, List.lookup, Nat.reduceAdd, Nat.reduceBEq, Int.reduceBNe, Int.reduceBEq, Nat.reduceLeDiff, q9]
                  refine cond_intro (fun hcj => ?_) (fun hcj => ?_)
                  · have hltj : j < B.length := by have := of_decide_eq_true hcj; omega
                    have hltA : j < A.length := by omega
                    have hR := hAB.get j hltA hltj
                    have hgB : (B.map ndAv)[j]? = some (ndAv B[j]) := by rw [List.getElem?_map, List.getElem?_eq_getElem hltj]; rfl
                    have hgA : (A.map ndAv)[j]? = some (ndAv A[j]) := by rw [List.getElem?_map, List.getElem?_eq_getElem hltA]; rfl
                    generalize B[j] = b at hR hgB
                    generalize A[j] = a at hR hgA
                    have hbw := beyond_warned hcr hR
                    clear hR
                    simp -dsimp only [Vm.G, List.lookup, Nat.reduceAdd, Nat.reduceBEq, Int.reduceBNe, Int.reduceBEq, Nat.reduceLeDiff, q9]
                    refine idxO_intro (xs := B.map ndAv) (by omega) (by simp; omega) ?_
                    simp -dsimp only [Vm.G, List.lookup, Nat.reduceAdd, Nat.reduceBEq, Int.reduceBNe, Int.reduceBEq, Nat.reduceLeDiff, q9, Int.toNat_natCast]
                    refine eltA_intro (xs := B.map ndAv) hgB ?_
                    simp only [ndAv, ndCells]
                    simp -dsimp only [Vm.G, List.lookup, Nat.reduceAdd, Nat.reduceBEq, Int.reduceBNe, Int.reduceBEq, Nat.reduceLeDiff, q9, AV.cells, List.drop_zero]
                    refine draw_cont [14] (.take 0 (.take 2 (.take 3 (.alt 1 (.take 4 (.alt 5 (.done) .stop)) .stop)))) (fun s h7 => h7 = h6 ∧ s 15 = .v (.bool (decide (usedOf b > b.limit))) ∧ s 5 = .ptr V.iv 0 ∧ s 10 = .own true 93 12 (A.map ndAv) ∧ s 11 = .v (.bool w) ∧ s 41 = .sl 4 (l.map dchAv) ∧ s 42 = .v (.int .i64 l.length) ∧ s 43 = .v (.int .i64 (i : Nat)) ∧ s 69 = .own true 93 12 (B.map ndAv) ∧ s 70 = .v (.int .i64 B.length) ∧ s 71 = .v (.int .i64 (j : Nat)) ∧ s 13 = .v (.int .i64 (j : Nat)) ∧ s 14 = .eptr (ndCells b)) (by kernel_rfl) (by kernel_rfl) (by kernel_rfl) (by decide) ?_ ?_
                    · clear hq
                      simp -dsimp only [Vm.G, List.lookup, Nat.reduceAdd, Nat.reduceBEq, Int.reduceBNe, Int.reduceBEq, Nat.reduceLeDiff, q9]
                      refine call_one (S := usedSpec) rfl _ GaL.rfl ⟨b, rfl, ?_⟩
                      simp -dsimp only [Vm.G, List.lookup, Nat.reduceAdd, Nat.reduceBEq, Int.reduceBNe, Int.reduceBEq, Nat.reduceLeDiff, q9]
                      simp only [ndCells]
                      repeat' first | rfl | exact True.intro | refine And.intro ?_ ?_
                    · rintro s h7 ⟨rfl, e15, e5, e10, e11, e41, e42, e43, e69, e70, e71, e13, e14⟩
                      simp only [ndCells] at e14
                      simp -dsimp only [Vm.G, List.lookup, Nat.reduceAdd, Nat.reduceBEq, Int.reduceBNe, Int.reduceBEq, Nat.reduceLeDiff, q9, e15, e5, e10, e11, e41, e42, e43, e69, e70, e71, e13, e14]
                      refine draw_cont [] (.take 0 (.take 1 (.take 2 (.take 5 (.take 6 (.take 7 (.take 8 (.alt 3 (.alt 4 (.alt 9 (.take 10 (.alt 11 (.done) .stop)) .stop) (.alt 9 (.alt 4 (.take 10 (.alt 11 (.done) .stop)) .stop) (.stop))) (.alt 9 (.alt 3 (.alt 4 (.take 10 (.alt 11 (.done) .stop)) .stop) .stop) (.stop)))))))))) (fun s h8 => h8 = h7 ∧ s 15 = .v (.bool (decide (usedOf b > b.limit))) ∧ s 16 = .v (.bool (decide (usedOf a > a.limit))) ∧ s 5 = .ptr V.iv 0 ∧ s 10 = .own true 93 12 (A.map ndAv) ∧ s 11 = .v (.bool w) ∧ s 41 = .sl 4 (l.map dchAv) ∧ s 42 = .v (.int .i64 l.length) ∧ s 43 = .v (.int .i64 (i : Nat)) ∧ s 69 = .own true 93 12 (B.map ndAv) ∧ s 70 = .v (.int .i64 B.length) ∧ s 71 = .v (.int .i64 (j : Nat)) ∧ s 13 = .v (.int .i64 (j : Nat)) ∧ s 14 = .eptr (ndCells b)) (by kernel_rfl) (by kernel_rfl) (by kernel_rfl) (by decide) ?_ ?_
                      · clear hq
                        repeat' first
                          | with_reducible exact True.intro
                          | refine idxO_intro (xs := A.map ndAv) (by omega) (by simp; omega) ?_
                          | refine eltA_intro (xs := A.map ndAv) hgA ?_
                          | refine call_one (S := usedSpec) rfl _ GaL.rfl ⟨a, rfl, ?_⟩
                          | simp -dsimp only [Vm.G, List.lookup, Nat.reduceAdd, Nat.reduceBEq, Int.reduceBNe, Int.reduceBEq, Nat.reduceLeDiff, q9, Int.toNat_natCast, ndAv, ndCells, AV.cells, List.drop_zero, List.drop_succ_cons, e15, e5, e10, e11, e41, e42, e43, e69, e70, e71, e13, e14]
                          | refine tree_alt ?_ ?_
                          | repeat' first | rfl | exact True.intro | refine And.intro ?_ ?_
                      · rintro s h8 ⟨rfl, e15, e16, e5, e10, e11, e41, e42, e43, e69, e70, e71, e13, e14⟩
                        simp only [ndCells] at e14
                        have k1 := Bool.eq_false_or_eq_true (decide (usedOf b > b.limit))
                        rcases k1 with k1 | k1
                        · have k2 := Bool.eq_false_or_eq_true (decide (usedOf a > a.limit))
                          rcases k2 with k2 | k2
                          · have k3 := Bool.eq_false_or_eq_true b.abs
                            rcases k3 with k3 | k3
                            · simp -dsimp only [Vm.G, List.lookup, Nat.reduceAdd, Nat.reduceBEq, Int.reduceBNe, Int.reduceBEq, Nat.reduceLeDiff, q9, e15, e16, e5, e10, e11, e41, e42, e43, e69, e70, e71, e13, e14, k1, k2, k3]
                              refine kept_intro ⟨B.length - (j + 1), by omega, _, le_mk [(5, .ptr V.iv 0), (10, .own true 93 12 (A.map ndAv)), (11, .v (.bool w)), (41, .sl 4 (l.map dchAv)), (42, .v (.int .i64 l.length)), (43, .v (.int .i64 (i : Nat))), (69, .own true 93 12 (B.map ndAv)), (70, .v (.int .i64 B.length)), (71, .v (.int .i64 (j + 1 : Nat)))] ?_, j + 1, by omega, rfl, rfl⟩
                              simp only [List.forall_mem_cons, List.not_mem_nil, false_imp_iff, implies_true, and_true, hwj, e15, e16, e5, e10, e11, e41, e42, e43, e69, e70, e71, e13, e14]
                              try simp -dsimp only [Vm.G, List.lookup, Nat.reduceAdd, Nat.reduceBEq, Int.reduceBNe, Int.reduceBEq, Nat.reduceLeDiff, q9, hwj, e15, e16, e5, e10, e11, e41, e42, e43, e69, e70, e71, e13, e14]
                              repeat' first | exact Fg.refl _ | exact Fg.nil _ _ _ (by decide) | refine And.intro ?_ ?_
                            · simp -dsimp only [Vm.G, List.lookup, Nat.reduceAdd, Nat.reduceBEq, Int.reduceBNe, Int.reduceBEq, Nat.reduceLeDiff, q9, e15, e16, e5, e10, e11, e41, e42, e43, e69, e70, e71, e13, e14, k1, k2, k3]
                              refine kept_intro ⟨B.length - (j + 1), by omega, _, le_mk [(5, .ptr V.iv 0), (10, .own true 93 12 (A.map ndAv)), (11, .v (.bool w)), (41, .sl 4 (l.map dchAv)), (42, .v (.int .i64 l.length)), (43, .v (.int .i64 (i : Nat))), (69, .own true 93 12 (B.map ndAv)), (70, .v (.int .i64 B.length)), (71, .v (.int .i64 (j + 1 : Nat)))] ?_, j + 1, by omega, rfl, rfl⟩
                              simp only [List.forall_mem_cons, List.not_mem_nil, false_imp_iff, implies_true, and_true, hwj, e15, e16, e5, e10, e11, e41, e42, e43, e69, e70, e71, e13, e14]
                              try simp -dsimp only [Vm.G, List.lookup, Nat.reduceAdd, Nat.reduceBEq, Int.reduceBNe, Int.reduceBEq, Nat.reduceLeDiff, q9, hwj, e15, e16, e5, e10, e11, e41, e42, e43, e69, e70, e71, e13, e14]
                              repeat' first | exact Fg.refl _ | exact Fg.nil _ _ _ (by decide) | refine And.intro ?_ ?_
                          · have hh := hbw (of_decide_eq_true k1) (of_decide_eq_false k2)
                            rcases hh with ⟨k3, k4⟩
                            simp -dsimp only [Vm.G, List.lookup, Nat.reduceAdd, Nat.reduceBEq, Int.reduceBNe, Int.reduceBEq, Nat.reduceLeDiff, q9, e15, e16, e5, e10, e11, e41, e42, e43, e69, e70, e71, e13, e14, k1, k2, k3, k4]
                            refine kept_intro ⟨B.length - (j + 1), by omega, _, le_mk [(5, .ptr V.iv 0), (10, .own true 93 12 (A.map ndAv)), (11, .v (.bool w)), (41, .sl 4 (l.map dchAv)), (42, .v (.int .i64 l.length)), (43, .v (.int .i64 (i : Nat))), (69, .own true 93 12 (B.map ndAv)), (70, .v (.int .i64 B.length)), (71, .v (.int .i64 (j + 1 : Nat)))] ?_, j + 1, by omega, rfl, rfl⟩
                            simp only [List.forall_mem_cons, List.not_mem_nil, false_imp_iff, implies_true, and_true, hwj, e15, e16, e5, e10, e11, e41, e42, e43, e69, e70, e71, e13, e14]
                            try simp -dsimp only [Vm.G, List.lookup, Nat.reduceAdd, Nat.reduceBEq, Int.reduceBNe, Int.reduceBEq, Nat.reduceLeDiff, q9, hwj, e15, e16, e5, e10, e11, e41, e42, e43, e69, e70, e71, e13, e14]
                            repeat' first | exact Fg.refl _ | exact Fg.nil _ _ _ (by decide) | refine And.intro ?_ ?_
                        · have k3 := Bool.eq_false_or_eq_true b.abs
                          rcases k3 with k3 | k3
                          · simp -dsimp only [Vm.G, List.lookup, Nat.reduceAdd, Nat.reduceBEq, Int.reduceBNe, Int.reduceBEq, Nat.reduceLeDiff, q9, e15, e16, e5, e10, e11, e41, e42, e43, e69, e70, e71, e13, e14, k1, k3]
                            refine kept_intro ⟨B.length - (j + 1), by omega, _, le_mk [(5, .ptr V.iv 0), (10, .own true 93 12 (A.map ndAv)), (11, .v (.bool w)), (41, .sl 4 (l.map dchAv)), (42, .v (.int .i64 l.length)), (43, .v (.int .i64 (i : Nat))), (69, .own true 93 12 (B.map ndAv)), (70, .v (.int .i64 B.length)), (71, .v (.int .i64 (j + 1 : Nat)))] ?_, j + 1, by omega, rfl, rfl⟩
                            simp only [List.forall_mem_cons, List.not_mem_nil, false_imp_iff, implies_true, and_true, hwj, e15, e16, e5, e10, e11, e41, e42, e43, e69, e70, e71, e13, e14]
                            try simp -dsimp only [Vm.G, List.lookup, Nat.reduceAdd, Nat.reduceBEq, Int.reduceBNe, Int.reduceBEq, Nat.reduceLeDiff, q9, hwj, e15, e16, e5, e10, e11, e41, e42, e43, e69, e70, e71, e13, e14]
                            repeat' first | exact Fg.refl _ | exact Fg.nil _ _ _ (by decide) | refine And.intro ?_ ?_
                          · simp -dsimp only [Vm.G, List.lookup, Nat.reduceAdd, Nat.reduceBEq, Int.reduceBNe, Int.reduceBEq, Nat.reduceLeDiff, q9, e15, e16, e5, e10, e11, e41, e42, e43, e69, e70, e71, e13, e14, k1, k3]
                            refine kept_intro ⟨B.length - (j + 1), by omega, _, le_mk [(5, .ptr V.iv 0), (10, .own true 93 12 (A.map ndAv)), (11, .v (.bool w)), (41, .sl 4 (l.map dchAv)), (42, .v (.int .i64 l.length)), (43, .v (.int .i64 (i : Nat))), (69, .own true 93 12 (B.map ndAv)), (70, .v (.int .i64 B.length)), (71, .v (.int .i64 (j + 1 : Nat)))] ?_, j + 1, by omega, rfl, rfl⟩
                            simp only [List.forall_mem_cons, List.not_mem_nil, false_imp_iff, implies_true, and_true, hwj, e15, e16, e5, e10, e11, e41, e42, e43, e69, e70, e71, e13, e14]
                            try simp -dsimp only [Vm.G, List.lookup, Nat.reduceAdd, Nat.reduceBEq, Int.reduceBNe, Int.reduceBEq, Nat.reduceLeDiff, q9, hwj, e15, e16, e5, e10, e11, e41, e42, e43, e69, e70, e71, e13, e14]
                            repeat' first | exact Fg.refl _ | exact Fg.nil _ _ _ (by decide) | refine And.intro ?_ ?_
                  · have hgej : ¬ j < B.length := by have := of_decide_eq_false hcj; omega
                    simp -dsimp only [Vm.G, List.lookup, Nat.reduceAdd, Nat.reduceBEq, Int.reduceBNe, Int.reduceBEq, Nat.reduceLeDiff, q9]
                    refine kept_intro ⟨l.length - (i + 1), by omega, _, le_mk [(5, .ptr V.iv 0), (41, .sl 4 (l.map dchAv)), (42, .v (.int .i64 l.length)), (43, .v (.int .i64 (i + 1 : Nat)))] ?_, i + 1, qf, f, by omega, hV5, hm5, by omega, by omega, rfl⟩
                    simp only [List.forall_mem_cons, List.not_mem_nil, false_imp_iff, implies_true, and_true, hw]
                    try simp -dsimp only [Vm.G, List.lookup, Nat.reduceAdd, Nat.reduceBEq, Int.reduceBNe, Int.reduceBEq, Nat.reduceLeDiff, q9, hw]
                    repeat' first | exact Fg.refl _ | exact Fg.nil _ _ _ (by decide) | refine And.intro ?_ ?_
            · have hge : ¬ i < l.length := by have := of_decide_eq_false hcc; omega
              clear hcc
              simp -dsimp only [Vm.G, List.lookup, Nat.reduceAdd, Nat.reduceBEq, Int.reduceBNe, Int.reduceBEq, Nat.reduceLeDiff, q9]
              refine call_one (S := isTrue) rfl _ GaL.rfl ⟨rfl, fun hz => ?_⟩
              simp -dsimp only [Vm.G, List.lookup, Nat.reduceAdd, Nat.reduceBEq, Int.reduceBNe, Int.reduceBEq, Nat.reduceLeDiff, q9]
              exact hq _
theorem isA_dch {y : AV} (h : IsA (.agg [.int .i64, .int .i64, .int .i64, .int .i64]) y) : ∃ x : Dch, True ∧ y = dchAv x := by
  simp only [IsA, IsAll] at h
  obtain ⟨ys, ⟨y1, r1, rfl, h1, y2, r2, rfl, h2, y3, r3, rfl, h3, y4, r4, rfl, h4, rfl⟩, rfl⟩ := h
  obtain ⟨a1, k1, rfl⟩ := isA_int (by simpa only [IsA] using h1)
  obtain ⟨a2, k2, rfl⟩ := isA_int (by simpa only [IsA] using h2)
  obtain ⟨a3, k3, rfl⟩ := isA_int (by simpa only [IsA] using h3)
  obtain ⟨a4, k4, rfl⟩ := isA_int (by simpa only [IsA] using h4)
  exact ⟨⟨a1, a2, a3, a4⟩, trivial, rfl⟩
theorem holds_args {y0 y1 : AV} (i0 : IsA (.sl (.agg [.int .i64, .int .i64, .int .i64, .int .i64, .int .i64, .bool, .int .i64, .int .i64, .int .i64, .int .i64, .int .i64, .int .i64])) y0) (i1 : IsA (.sl (.agg [.int .i64, .int .i64, .int .i64, .int .i64])) y1) {Q : AV → Heap → Prop} (hq : ∀ h', Q (.v (.bool true)) h') : holdsSpec [y0, y1] [] Q := by
  obtain ⟨ns, h1, rfl, o1⟩ := isA_list _ ndAv (fun y hy => isA_nd hy) i0
  obtain ⟨l, h2, rfl, -⟩ := isA_list (fun _ => True) dchAv (fun y hy => isA_dch hy) i1
  exact ⟨ns, l, h1, h2, o1, rfl, hq⟩
end Go.Proofs.Lx
