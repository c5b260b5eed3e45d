/- What the functions of the program do: their contracts. -/
import Derived.Test.YthfbpdipilajoaaGreatDoorV2
import Derived.Test.YthfbpdipilajoaaGreatDoorTFs
import Derived.Test.YthfbpdipilajoaaGreatDoorW0
/- The reference's tables: plain laws. -/
set_option linter.unusedSimpArgs false
set_option linter.unusedVariables false
namespace Go.Proofs.Lx
open Go.Vm
abbrev kLt (a b : List UInt8) : Prop := Lib.compareBytes a b < 0
theorem kLt_irrefl (a : List UInt8) : ¬ kLt a a := by unfold kLt; rw [cb_self]; decide
theorem kLt_tri {a b : List UInt8} (h1 : ¬ kLt a b) (h2 : a ≠ b) : kLt b a := Classical.byContradiction fun h => h2 (cb_eq _ _ h1 h)
def tput (k v : List UInt8) : List KV → List KV
  | [] => [(k, v)]
  | p :: r => if kLt p.1 k then p :: tput k v r else if p.1 = k then (k, v) :: r else (k, v) :: p :: r
theorem tput_mem1 {k v : List UInt8} {q : KV} : ∀ {l : List KV}, q ∈ tput k v l → q = (k, v) ∨ q ∈ l
  | [], h => by simp [tput] at h; exact .inl h
  | p :: r, h => by
    simp only [tput] at h
    split at h
    · rcases List.mem_cons.1 h with h | h
      · exact .inr (h ▸ List.mem_cons_self ..)
      · rcases tput_mem1 h with h | h
        · exact .inl h
        · exact .inr (List.mem_cons_of_mem _ h)
    · split at h
      · rcases List.mem_cons.1 h with h | h
        · exact .inl h
        · exact .inr (List.mem_cons_of_mem _ h)
      · rcases List.mem_cons.1 h with h | h
        · exact .inl h
        · exact .inr h
theorem tput_sorted {k v : List UInt8} : ∀ {l : List KV}, l.Pairwise keyLt → (tput k v l).Pairwise keyLt
  | [], _ => by simp [tput]
  | p :: r, h => by
    have h' := List.pairwise_cons.1 h
    simp only [tput]
    split
    · rename_i hlt
      refine List.pairwise_cons.2 ⟨fun q hq => ?_, tput_sorted h'.2⟩
      rcases tput_mem1 hq with rfl | hq
      · exact hlt
      · exact h'.1 q hq
    · rename_i hlt
      split
      · rename_i he
        refine List.pairwise_cons.2 ⟨fun q hq => ?_, h'.2⟩
        have := h'.1 q hq
        show kLt k q.1
        rw [← he]; exact this
      · rename_i hne
        have hk := kLt_tri hlt hne
        refine List.pairwise_cons.2 ⟨fun q hq => ?_, h⟩
        rcases List.mem_cons.1 hq with rfl | hq
        · exact hk
        · exact cb_trans _ _ _ hk (h'.1 q hq)
theorem tput_mem {k v k' v' : List UInt8} : ∀ {l : List KV}, l.Pairwise keyLt → ((k', v') ∈ tput k v l ↔ if k' = k then v' = v else (k', v') ∈ l)
  | [], _ => by simp only [tput, List.mem_singleton, Prod.mk.injEq, List.not_mem_nil]; split <;> simp_all
  | p :: r, h => by
    have h' := List.pairwise_cons.1 h
    have ih := tput_mem (k := k) (v := v) (k' := k') (v' := v') h'.2
    have hnk : ∀ {k'}, ¬ kLt p.1 k' → (k', v') ∈ r → False := fun hn hm => hn (h'.1 _ hm)
    simp only [tput]
    split
    · rename_i hlt
      rw [List.mem_cons, ih]
      by_cases hk : k' = k
      · subst hk
        have : ¬ (k', v') = p := fun e => by rw [← e] at hlt; exact kLt_irrefl _ hlt
        simp [this]
      · simp [hk]
    · rename_i hlt
      split
      · rename_i he
        by_cases hk : k' = k
        · subst hk
          simp only [List.mem_cons, Prod.mk.injEq, true_and, if_true, or_iff_left_iff_imp]
          exact fun hm => (hnk hlt hm).elim
        · have : ¬ (k', v') = p := fun e => hk (by rw [← he, ← e])
          simp [hk, this]
      · rename_i hne
        by_cases hk : k' = k
        · subst hk
          have h3 : ¬ (k', v') = p := fun e => hne (by rw [← e])
          simp only [List.mem_cons, Prod.mk.injEq, true_and, if_true, or_iff_left_iff_imp]
          rintro (hm | hm)
          · exact (h3 hm).elim
          · exact (hnk hlt hm).elim
        · simp [hk]
/-- A table's pairs: what each key has. -/
def TabIs (f : Fun) (l : List KV) : Prop := l.Pairwise keyLt ∧ ∀ k v, (k, v) ∈ l ↔ f k = some v
theorem TabIs.put {f : Fun} {l : List KV} (h : TabIs f l) (k v : List UInt8) : TabIs (upd f k (some v)) (tput k v l) := by
  refine ⟨tput_sorted h.1, fun k' v' => ?_⟩
  rw [tput_mem h.1]
  show _ ↔ (if k' = k then some v else f k') = some v'
  by_cases hk : k' = k
  · simp only [hk, if_true, Option.some.injEq]; exact eq_comm
  · simp only [hk, if_false]; exact h.2 k' v'
theorem TabIs.new : TabIs noF [] := ⟨.nil, fun k v => by simp [noF]⟩
theorem TabIs.scan {f : Fun} {l : List KV} (h : TabIs f l) (pre : List UInt8) : ScanIs f pre (l.filter fun p => pre.isPrefixOf p.1) := by
  refine ⟨h.1.sublist List.filter_sublist, fun k v => ?_⟩
  rw [List.mem_filter, h.2]
/-- Two lists of the same pairs, both rising, are the same. -/
theorem sorted_same : ∀ {l l' : List KV}, l.Pairwise keyLt → l'.Pairwise keyLt → (∀ p, p ∈ l ↔ p ∈ l') → l = l'
  | [], [], _, _, _ => rfl
  | [], q :: r, _, _, h => by have := (h q).2 (List.mem_cons_self ..); cases this
  | p :: r, [], _, _, h => by have := (h p).1 (List.mem_cons_self ..); cases this
  | p :: r, q :: r', h1, h2, h => by
    have g1 := List.pairwise_cons.1 h1
    have g2 := List.pairwise_cons.1 h2
    have e : p = q := by
      rcases List.mem_cons.1 ((h p).1 (List.mem_cons_self ..)) with e | hm
      · exact e
      · rcases List.mem_cons.1 ((h q).2 (List.mem_cons_self ..)) with e | hm2
        · exact e.symm
        · exact absurd (g1.1 q hm2) (cb_asymm _ _ (g2.1 p hm))
    subst e
    congr 1
    refine sorted_same g1.2 g2.2 fun x => ?_
    have hx := h x
    simp only [List.mem_cons] at hx
    constructor
    · intro hm
      rcases hx.1 (.inr hm) with e | e
      · subst e; exact absurd (g1.1 x hm) (kLt_irrefl _)
      · exact e
    · intro hm
      rcases hx.2 (.inr hm) with e | e
      · subst e; exact absurd (g2.1 x hm) (kLt_irrefl _)
      · exact e
theorem ScanIs.same {f : Fun} {pre : List UInt8} {l l' : List KV} (h : ScanIs f pre l) (h' : ScanIs f pre l') : l = l' :=
  sorted_same h.1 h'.1 fun p => (h.2 p.1 p.2).trans (h'.2 p.1 p.2).symm
end Go.Proofs.Lx
/- The reference's tables, walked. -/
set_option linter.unusedSimpArgs false
set_option linter.unusedVariables false
namespace Go.Proofs.Lx
open Go.Vm
attribute [local irreducible] awpArr awpBin awpMake awpAppend awpCvX awpStrOf awpBinX awpSlice awpBS awpStore awpAlloc awpCopy awpIndex awpDraw awpIdxX awpFa awpField awpLookup awpUpdate awpDelete awpClear awpRange awpNext awpEntry awpBuild awpClearS awpIdxL awpTree appB
def tabObj (l : List KV) : AObj := .cells [.sl 2 (l.map kvAv)]
end Go.Proofs.Lx
/- The reference's records: ref17, ref18. -/
set_option linter.unusedSimpArgs false
set_option linter.unusedVariables false
namespace Go.Proofs.Lx
open Go.Vm
attribute [local irreducible] awpArr awpBin awpMake awpAppend awpCvX awpStrOf awpBinX awpSlice awpBS awpStore awpAlloc awpCopy awpIndex awpDraw awpIdxX awpFa awpField awpLookup awpUpdate awpDelete awpClear awpRange awpNext awpEntry awpBuild awpClearS awpIdxL
end Go.Proofs.Lx
/- The reference's view. -/
set_option linter.unusedSimpArgs false
set_option linter.unusedVariables false
namespace Go.Proofs.Lx
open Go.Vm
attribute [local irreducible] awpArr awpBin awpMake awpAppend awpCvX awpStrOf awpBinX awpSlice awpBS awpStore awpAlloc awpCopy awpIndex awpDraw awpIdxX awpFa awpField awpLookup awpUpdate awpDelete awpClear awpRange awpNext awpEntry awpBuild awpClearS awpIdxL
def GaO (x y : AObj) : Prop := x = y ∨ ∃ a b, x = .cells a ∧ y = .cells b ∧ GaL a b
def GaH (h h' : Heap) : Prop := h.length = h'.length ∧ ∀ (i : Nat) (o' : AObj), h'[i]? = some o' → ∃ o : AObj, h[i]? = some o ∧ GaO o o'
theorem GaH.refl (h : Heap) : GaH h h := ⟨rfl, fun i o ho => ⟨o, ho, .inl rfl⟩⟩
structure RId where
  iv : Nat
  iw : Nat
  inn : Nat
  it : Nat
/-- A view of the reference: what each key has. -/
def isRef (h : Heap) (R : RId) (f : Fun) : Prop :=
  ∃ lw ln lt : List KV, h[R.iv]? = some (.cells [.ptr R.iw 0, .ptr R.inn 0, .ptr R.it 0]) ∧ h[R.iw]? = some (tabObj lw) ∧ h[R.inn]? = some (tabObj ln) ∧ h[R.it]? = some (tabObj lt) ∧
    (R.iv ≠ R.inn ∧ R.iv ≠ R.it ∧ R.inn ≠ R.it ∧ R.iw ≠ R.inn ∧ R.iw ≠ R.it) ∧ TabIs f ln ∧ (ln.length ≤ f.n ∧ lt.length ≤ f.n) ∧ ∀ p ∈ ln, p.1.length ≤ 32 ∧ p.2.length ≤ 120
theorem isRef.len {h : Heap} {R : RId} {f : Fun} (hR : isRef h R f) {k l : List UInt8} (hf : f k = some l) : k.length ≤ 32 ∧ l.length ≤ 120 := by
  obtain ⟨lw, ln, lt, -, -, -, -, -, h6, -, h8⟩ := hR
  exact h8 (k, l) ((h6.2 k l).2 hf)
end Go.Proofs.Lx
/- The reference's numbers and years. -/
set_option linter.unusedSimpArgs false
set_option linter.unusedVariables false
namespace Go.Proofs.Lx
open Go.Vm
attribute [local irreducible] awpArr awpBin awpMake awpAppend awpCvX awpStrOf awpBinX awpSlice awpBS awpStore awpAlloc awpCopy awpIndex awpDraw awpIdxX awpFa awpField awpLookup awpUpdate awpDelete awpClear awpRange awpNext awpEntry awpBuild awpClearS awpIdxL
end Go.Proofs.Lx
/- The reference's pairs that begin so; two views beside. -/
set_option linter.unusedSimpArgs false
set_option linter.unusedVariables false
namespace Go.Proofs.Lx
open Go.Vm
attribute [local irreducible] awpArr awpBin awpMake awpAppend awpCvX awpStrOf awpBinX awpSlice awpBS awpStore awpAlloc awpCopy awpIndex awpDraw awpIdxX awpFa awpField awpLookup awpUpdate awpDelete awpClear awpRange awpNext awpEntry awpBuild awpClearS awpIdxL awpTree appB
def Both (h : Heap) (V : VId) (R : RId) (f : Fun) : Prop := isView h V f ∧ isRef h R f ∧ (∀ i ∈ [V.iv, V.ic, V.im], i ∉ [R.iv, R.iw, R.inn, R.it])
theorem get_lt {h : Heap} {i : Nat} {o : AObj} (hx : h[i]? = some o) : i < h.length := by
  rcases Nat.lt_or_ge i h.length with h' | h'
  · exact h'
  · rw [List.getElem?_eq_none h'] at hx; cases hx
theorem Same.get {h h' : Heap} {fp : List Nat} (hs : Same h h' fp) {i : Nat} {o : AObj} (hx : h[i]? = some o) (hi : i ∉ fp) : h'[i]? = some o := by rw [hs.2 i (get_lt hx) hi]; exact hx
theorem isView.same {h h' : Heap} {V : VId} {f : Fun} {fp : List Nat} (hV : isView h V f) (hs : Same h h' fp) (hd : ∀ i ∈ [V.iv, V.ic, V.im], i ∉ fp) : isView h' V f := by
  obtain ⟨chg, clk, mem, clk2, h1, h2, h3, h4⟩ := hV
  exact ⟨chg, clk, mem, clk2, hs.get h1 (hd _ (by simp)), hs.get h2 (hd _ (by simp)), hs.get h3 (hd _ (by simp)), h4⟩
theorem isRef.same {h h' : Heap} {R : RId} {f : Fun} {fp : List Nat} (hR : isRef h R f) (hs : Same h h' fp) (hd : ∀ i ∈ [R.iv, R.iw, R.inn, R.it], i ∉ fp) : isRef h' R f := by
  obtain ⟨lw, ln, lt, h1, h2, h3, h4, h5⟩ := hR
  exact ⟨lw, ln, lt, hs.get h1 (hd _ (by simp)), hs.get h2 (hd _ (by simp)), hs.get h3 (hd _ (by simp)), hs.get h4 (hd _ (by simp)), h5⟩
theorem Both.view {h h' : Heap} {V : VId} {R : RId} {f g : Fun} (hB : Both h V R f) (hV : isView h' V g) (hs : Same h h' [V.ic]) : isRef h' R f := by
  refine hB.2.1.same hs fun i hi hm => ?_
  rw [List.mem_singleton] at hm; subst hm
  exact hB.2.2 V.ic (by simp) hi
end Go.Proofs.Lx
/- The law TreeEnds. -/
set_option linter.unusedSimpArgs false
set_option linter.unusedVariables false
namespace Go.Proofs.Lx
open Go.Vm
attribute [local irreducible] awpArr awpBin awpMake awpAppend awpCvX awpStrOf awpBinX awpSlice awpBS awpStore awpAlloc awpCopy awpIndex awpDraw awpIdxX awpFa awpField awpLookup awpUpdate awpDelete awpClear awpRange awpNext awpEntry awpBuild awpClearS awpIdxL
def vnewASpec : Vm.Spec := fun args h Q => args = [nilP] ∧ ∀ V h', isView h' V noF → Q (.ptr V.iv 0) h'
theorem does_vnewA : Does Tryz.prog 19 vnewASpec := does_vnew.imp (by
  rintro args h Q ⟨rfl, hq⟩
  exact ⟨rfl, hq ⟨h.length + 2, h.length, h.length + 1⟩ _ (isView_new h)⟩)
theorem nodeAt_id {f : Fun} {year id : Int} {n : Nd} (h : nodeAt f year id = some n) : n.id = id := by
  unfold nodeAt at h
  split at h
  · cases h
  · split at h
    · split at h
      · rename_i hc; cases h; exact hc.2
      · cases h
    · cases h
theorem path_head (f : Fun) (year : Int) : ∀ (k : Nat) (id : Int) (n : Nd) (r : List Nd), pathOf f year k id = n :: r → n.id = id
  | 0, id, n, r, h => by cases h
  | k + 1, id, n, r, h => by
    simp only [pathOf] at h
    cases hn : nodeAt f year id with
    | none => rw [hn] at h; cases h
    | some m => rw [hn] at h; cases h; exact nodeAt_id hn
theorem path_step (f : Fun) (year : Int) : ∀ (k : Nat) (id : Int) (i : Nat) (a b : Nd), (pathOf f year k id)[i]? = some a → (pathOf f year k id)[i + 1]? = some b → b.id = a.parent
  | 0, id, i, a, b, h, _ => by simp [pathOf] at h
  | k + 1, id, i, a, b, h1, h2 => by
    simp only [pathOf] at h1 h2
    cases hn : nodeAt f year id with
    | none => rw [hn] at h1; simp at h1
    | some m =>
      rw [hn] at h1 h2
      simp only at h1 h2
      by_cases h0 : m.parent = 0
      · rw [if_pos h0] at h2; simp at h2
      · rw [if_neg h0] at h1 h2
        cases i with
        | zero =>
          simp only [List.getElem?_cons_zero, Option.some.injEq] at h1
          subst h1
          rw [List.getElem?_cons_succ] at h2
          cases hp : pathOf f year k m.parent with
          | nil => rw [hp] at h2; simp at h2
          | cons x r =>
            rw [hp] at h2
            simp only [List.getElem?_cons_zero, Option.some.injEq] at h2
            subst h2
            exact path_head f year k _ _ _ hp
        | succ i =>
          rw [List.getElem?_cons_succ] at h1 h2
          exact path_step f year k m.parent i a b h1 h2
theorem path_end (f : Fun) (year : Int) : ∀ (k : Nat) (id : Int) (a : Nd), (pathOf f year k id)[(pathOf f year k id).length - 1]? = some a → (pathOf f year k id).length < k → a.parent = 0 ∨ nodeAt f year a.parent = none
  | 0, id, a, h, _ => by simp [pathOf] at h
  | k + 1, id, a, h1, h2 => by
    simp only [pathOf] at h1 h2
    cases hn : nodeAt f year id with
    | none => rw [hn] at h1; simp at h1
    | some m =>
      rw [hn] at h1 h2
      simp only at h1 h2
      by_cases h0 : m.parent = 0
      · rw [if_pos h0] at h1
        simp only [List.length_cons, List.length_nil, Nat.zero_add, Nat.sub_self, List.getElem?_cons_zero, Option.some.injEq] at h1
        subst h1; exact .inl h0
      · rw [if_neg h0] at h1 h2
        cases hp : pathOf f year k m.parent with
        | nil =>
          rw [hp] at h1 h2
          simp only [List.length_cons, List.length_nil, Nat.zero_add, Nat.sub_self, List.getElem?_cons_zero, Option.some.injEq] at h1 h2
          subst h1
          right
          cases k with
          | zero => omega
          | succ k =>
            simp only [pathOf] at hp
            cases hm : nodeAt f year m.parent with
            | none => rfl
            | some x => rw [hm] at hp; cases hp
        | cons x r =>
          rw [hp] at h1 h2
          simp only [List.length_cons] at h1 h2
          rw [show r.length + 1 + 1 - 1 = r.length + 1 by omega, List.getElem?_cons_succ] at h1
          refine path_end f year k m.parent a ?_ ?_
          · rw [hp, List.length_cons, show r.length + 1 - 1 = r.length by omega]; exact h1
          · rw [hp, List.length_cons]; omega
def na1 : Nd := { Nd.zero with year := 2020, id := 1, limit := 9 }
def na2 : Nd := { Nd.zero with year := 2020, id := 2, parent := 1, limit := 4 }
def naF : Fun := upd (upd noF (ndK na1) (some (ndV na1))) (ndK na2) (some (ndV na2))
def naL : List KV := tput (ndK na2) (ndV na2) (tput (ndK na1) (ndV na1) [])
theorem naT : TabIs naF naL := (TabIs.new.put _ _).put _ _
theorem na_path : pathOf naF 2020 8 2 = [na2, na1] := by kernel_rfl
theorem na_kids : kidsN 2020 1 (naL.filter fun p => (keyOf 78 [2020]).isPrefixOf p.1) = [na2] := by kernel_rfl
theorem na1_ok : na1.ok := by simp [Nd.ok, na1, Nd.zero, I64]
theorem na2_ok : na2.ok := by simp [Nd.ok, na2, Nd.zero, I64]
set_option maxRecDepth 20000 in
theorem does_law28awake : Does Tryz.prog 52 trueSpec := by
  refine does_of_awp (good_cons does_vnewA (good_cons does_tput (good_cons does_tpath (good_cons does_tkids (good_cons does_given good_nil))))) Tryz.func52 rfl (by decide +kernel) (by decide +kernel) ?_
  rintro args h Q ⟨rfl, hq⟩
  refine ⟨by simp [Tryz.f52], ?_⟩
  rw [awpFunc_some (by rfl)]
  simp -dsimp only [Vm.E, List.lookup, Nat.reduceAdd, Nat.reduceBEq, Int.reduceBNe, Int.reduceBEq, Bool.true_beq, Bool.false_beq, Vm.S, Nat.reduceLeDiff, q52]
  refine call_one (S := vnewASpec) rfl _ GaL.rfl ⟨rfl, fun V h0 hV => ?_⟩
  simp -dsimp only [Vm.E, List.lookup, Nat.reduceAdd, Nat.reduceBEq, Int.reduceBNe, Int.reduceBEq, Bool.true_beq, Bool.false_beq, Vm.S, Nat.reduceLeDiff, q52]
  refine nil_pointer Tryz.underlying26 ?_
  simp -dsimp only [Vm.E, List.lookup, Nat.reduceAdd, Nat.reduceBEq, Int.reduceBNe, Int.reduceBEq, Bool.true_beq, Bool.false_beq, Vm.S, Nat.reduceLeDiff, q52]
  refine call_one (S := tputSpec) rfl _ GaL.rfl ⟨V, _, na1, rfl, na1_ok, hV, fun h1 hV1 _ => ?_⟩
  simp -dsimp only [Vm.E, List.lookup, Nat.reduceAdd, Nat.reduceBEq, Int.reduceBNe, Int.reduceBEq, Bool.true_beq, Bool.false_beq, Vm.S, Nat.reduceLeDiff, q52]
  refine call_one (S := tputSpec) rfl _ GaL.rfl ⟨V, _, na2, rfl, na2_ok, hV1, fun h2 hV2 _ => ?_⟩
  simp -dsimp only [Vm.E, List.lookup, Nat.reduceAdd, Nat.reduceBEq, Int.reduceBNe, Int.reduceBEq, Bool.true_beq, Bool.false_beq, Vm.S, Nat.reduceLeDiff, q52]
  refine call_one (S := tpathSpec) rfl _ GaL.rfl ⟨V, naF, 2020, 2, rfl, hV2, ?_⟩
  rw [na_path]
  simp -dsimp only [Vm.E, List.lookup, Nat.reduceAdd, Nat.reduceBEq, Int.reduceBNe, Int.reduceBEq, Bool.true_beq, Bool.false_beq, Vm.S, Nat.reduceLeDiff, q52]
  refine call_one (S := tkidsSpec) rfl _ GaL.rfl ⟨V, naF, 2020, 1, rfl, hV2, by decide, fun l h3 hsc _ hV3 _ => ?_⟩
  rw [hsc.same (naT.scan _), na_kids]
  have e0 : ([na2, na1].map ndAv)[(0 : Int).toNat]? = some (ndAv na2) := rfl
  have e1 : ([na2, na1].map ndAv)[(1 : Int).toNat]? = some (ndAv na1) := rfl
  have k2 : (((2 : Nat) : Int) == 2) = true := rfl
  have k1 : (((1 : Nat) : Int) == 1) = true := rfl
  simp -dsimp only [Vm.E, List.lookup, Nat.reduceAdd, Nat.reduceBEq, Int.reduceBNe, Int.reduceBEq, Bool.true_beq, Bool.false_beq, Vm.S, Nat.reduceLeDiff, q52, List.map_cons, List.map_nil, List.length_cons, List.length_nil, k2, k1]
  refine idxO_intro (by decide) (by simp) ?_
  simp -dsimp only [Vm.E, List.lookup, Nat.reduceAdd, Nat.reduceBEq, Int.reduceBNe, Int.reduceBEq, Bool.true_beq, Bool.false_beq, Vm.S, Nat.reduceLeDiff, q52]
  refine eltA_intro (x := ndAv na1) rfl ?_
  have ec : (ndAv na1).cells = ndCells na1 := rfl
  simp only [ec, ndCells]
  simp -dsimp only [Vm.E, List.lookup, Nat.reduceAdd, Nat.reduceBEq, Int.reduceBNe, Int.reduceBEq, Bool.true_beq, Bool.false_beq, Vm.S, Nat.reduceLeDiff, q52]
  have g1 : (na1.id == 1) = true := rfl
  have g2 : w64s [na2.limit] = 4 := rfl
  simp -dsimp only [Vm.E, List.lookup, Nat.reduceAdd, Nat.reduceBEq, Int.reduceBNe, Int.reduceBEq, Bool.true_beq, Bool.false_beq, Vm.S, Nat.reduceLeDiff, q52, g1, k1, k2]
  refine call_one (S := givenSpec) rfl _ GaL.rfl ⟨[na2], by simp, rfl, ?_⟩
  simp -dsimp only [Vm.E, List.lookup, Nat.reduceAdd, Nat.reduceBEq, Int.reduceBNe, Int.reduceBEq, Bool.true_beq, Bool.false_beq, Vm.S, Nat.reduceLeDiff, q52, g2, List.map_cons, List.map_nil]
  exact hq _
def endsSpec : Vm.Spec := fun args h Q => ∃ (l : List Nd) (id : Int), l.length ≤ 9223372036854775807 ∧ (∀ n ∈ l, n.ok) ∧ 0 ≤ id ∧ id ≤ 65535 ∧ args = [.sl 12 (l.map ndAv), .v (.int .u16 id)] ∧ ∀ h', Q (.v (.bool true)) h'
set_option maxRecDepth 20000 in
set_option maxHeartbeats 4000000 in
theorem does_ends : Does Tryz.prog 9 endsSpec := by
  refine does_of_awp (good_cons does_vnewA (good_cons does_tput (good_cons does_tpath (good_cons does_tget (good_cons does_law28awake good_nil))))) Tryz.func9 rfl (by decide +kernel) (by decide +kernel) ?_
  rintro args h Q ⟨l, id, hl, hlok, hid0, hid1, rfl, hq⟩
  refine ⟨by simp [Tryz.f9], ?_⟩
  rw [awpFunc_some (by rfl)]
  have hwid : IntKind.i64.wrap id = id := wrap_i64 (by omega) (by omega)
  simp -dsimp only [Vm.E, List.lookup, Nat.reduceAdd, Nat.reduceBEq, Int.reduceBNe, Int.reduceBEq, Bool.true_beq, Bool.false_beq, Vm.S, Nat.reduceLeDiff, q9]
  cases c40 : decide ((l.length : Int) > 40)
  · have d40 := of_decide_eq_false c40
    simp -dsimp only [Vm.E, List.lookup, Nat.reduceAdd, Nat.reduceBEq, Int.reduceBNe, Int.reduceBEq, Bool.true_beq, Bool.false_beq, Vm.S, Nat.reduceLeDiff, q9]
    refine call_one (S := vnewASpec) rfl _ GaL.rfl ⟨rfl, fun V h0 hV => ?_⟩
    simp -dsimp only [Vm.E, List.lookup, Nat.reduceAdd, Nat.reduceBEq, Int.reduceBNe, Int.reduceBEq, Bool.true_beq, Bool.false_beq, Vm.S, Nat.reduceLeDiff, q9]
    refine awp_loop (fun m s h' => ∃ (i : Nat) (f : Fun), i + m = l.length ∧ isView h' V f ∧ s = mk [(1, .v (.int .u16 id)), (5, .ptr V.iv 0), (18, .sl 12 (l.map ndAv)), (19, .v (.int .i64 l.length)), (20, .v (.int .i64 i))])
      l.length _ (le_mk _ ?_) ⟨0, noF, by omega, hV, rfl⟩ ?_
    · simp only [List.forall_mem_cons, List.not_mem_nil, false_imp_iff, implies_true, and_true]
      try simp -dsimp only [Vm.E, List.lookup, Nat.reduceAdd, Nat.reduceBEq, Int.reduceBNe, Int.reduceBEq, Bool.true_beq, Bool.false_beq, Vm.S, Nat.reduceLeDiff, q9]
      repeat' first | exact Fg.refl _ | exact Fg.nil _ _ _ (by decide) | refine And.intro ?_ ?_
    · clear hV
      rintro m s h' ⟨i, f, hi, hV, rfl⟩
      simp -dsimp only [Vm.E, List.lookup, Nat.reduceAdd, Nat.reduceBEq, Int.reduceBNe, Int.reduceBEq, Bool.true_beq, Bool.false_beq, Vm.S, Nat.reduceLeDiff, q9]
      refine cond_intro (fun hcc => ?_) (fun hcc => ?_)
      · have hlt : i < l.length := by have := of_decide_eq_true hcc; omega
        have hw : IntKind.i64.wrap ((i : Int) + 1) = ((i + 1 : Nat) : Int) := by rw [wrap_i64 (by omega) (by omega)]; simp
        simp -dsimp only [Vm.E, List.lookup, Nat.reduceAdd, Nat.reduceBEq, Int.reduceBNe, Int.reduceBEq, Bool.true_beq, Bool.false_beq, Vm.S, Nat.reduceLeDiff, q9]
        have hok := hlok l[i] (List.getElem_mem hlt)
        refine idx_map ndAv l i hlt ?_
        generalize l[i] = n at hok
        simp only [ndAv, ndCells]
        simp -dsimp only [Vm.E, List.lookup, Nat.reduceAdd, Nat.reduceBEq, Int.reduceBNe, Int.reduceBEq, Bool.true_beq, Bool.false_beq, Vm.S, Nat.reduceLeDiff, q9, AV.cells]
        refine call_one (S := tputSpec) rfl _ GaL.rfl ⟨V, f, { n with year := 2020 }, rfl, ⟨by show I64 2020; unfold I64; omega, hok.2⟩, hV, fun h2 hV2 _ => ?_⟩
        simp -dsimp only [Vm.E, List.lookup, Nat.reduceAdd, Nat.reduceBEq, Int.reduceBNe, Int.reduceBEq, Bool.true_beq, Bool.false_beq, Vm.S, Nat.reduceLeDiff, q9]
        refine kept_intro ⟨l.length - (i + 1), by omega, _, le_mk [(1, .v (.int .u16 id)), (5, .ptr V.iv 0), (18, .sl 12 (l.map ndAv)), (19, .v (.int .i64 l.length)), (20, .v (.int .i64 (i + 1 : Nat)))] ?_, i + 1, _, by omega, hV2, rfl⟩
        simp only [List.forall_mem_cons, List.not_mem_nil, false_imp_iff, implies_true, and_true, hw]
        try simp -dsimp only [Vm.E, List.lookup, Nat.reduceAdd, Nat.reduceBEq, Int.reduceBNe, Int.reduceBEq, Bool.true_beq, Bool.false_beq, Vm.S, Nat.reduceLeDiff, q9, hw]
        repeat' first | exact Fg.refl _ | exact Fg.nil _ _ _ (by decide) | refine And.intro ?_ ?_
      · simp -dsimp only [Vm.E, List.lookup, Nat.reduceAdd, Nat.reduceBEq, Int.reduceBNe, Int.reduceBEq, Bool.true_beq, Bool.false_beq, Vm.S, Nat.reduceLeDiff, q9, hwid]
        refine call_one (S := tpathSpec) rfl _ GaL.rfl ⟨V, f, 2020, id, rfl, hV, ?_⟩
        have p1 := pathOf_length f 2020 8 id
        have p2 := path_head f 2020 8 id
        have p3 := path_step f 2020 8 id
        have p4 := path_end f 2020 8 id
        generalize pathOf f 2020 8 id = p at p1 p2 p3 p4 ⊢
        clear hi hcc
        simp -dsimp only [Vm.E, List.lookup, Nat.reduceAdd, Nat.reduceBEq, Int.reduceBNe, Int.reduceBEq, Bool.true_beq, Bool.false_beq, Vm.S, Nat.reduceLeDiff, q9]
        refine awp_loop (fun m s hx => ∃ i : Nat, 1 ≤ i ∧ m = p.length - i ∧ hx = h' ∧ s = mk [(1, .v (.int .u16 id)), (5, .ptr V.iv 0), (8, .own true 25 12 (p.map ndAv)), (9, .v (.int .i64 i))])
          (p.length - 1) _ (le_mk _ ?_) ⟨1, by omega, rfl, rfl, rfl⟩ ?_
        · simp only [List.forall_mem_cons, List.not_mem_nil, false_imp_iff, implies_true, and_true]
          try simp -dsimp only [Vm.E, List.lookup, Nat.reduceAdd, Nat.reduceBEq, Int.reduceBNe, Int.reduceBEq, Bool.true_beq, Bool.false_beq, Vm.S, Nat.reduceLeDiff, q9]
          repeat' first | exact Fg.refl _ | exact Fg.nil _ _ _ (by decide) | refine And.intro ?_ ?_
        · rintro m s hx ⟨i, hi1, rfl, rfl, rfl⟩
          simp -dsimp only [Vm.E, List.lookup, Nat.reduceAdd, Nat.reduceBEq, Int.reduceBNe, Int.reduceBEq, Bool.true_beq, Bool.false_beq, Vm.S, Nat.reduceLeDiff, q9]
          refine cond_intro (fun hcc => ?_) (fun hcc => ?_)
          · have hlt : i < p.length := by have := of_decide_eq_true hcc; omega
            have hw : IntKind.i64.wrap ((i : Int) + 1) = ((i + 1 : Nat) : Int) := by rw [wrap_i64 (by omega) (by omega)]; simp
            have hwm : IntKind.i64.wrap ((i : Int) - 1) = ((i - 1 : Nat) : Int) := by rw [wrap_i64 (by omega) (by omega)]; omega
            have ga : (p.map ndAv)[i]? = some (ndAv p[i]) := by simp [hlt]
            have gb : (p.map ndAv)[i - 1]? = some (ndAv (p[i - 1]'(by omega))) := by rw [List.getElem?_map, List.getElem?_eq_getElem (by omega)]; rfl
            have hst : p[i].id = (p[i - 1]'(by omega)).parent := p3 (i - 1) _ _ (List.getElem?_eq_getElem (by omega)) (by rw [show i - 1 + 1 = i by omega]; exact List.getElem?_eq_getElem hlt)
            have hlen : (p.map ndAv).length = p.length := List.length_map ..
            generalize p[i] = na at ga hst
            generalize p[i - 1]'(by omega) = nb at gb hst
            simp -dsimp only [Vm.E, List.lookup, Nat.reduceAdd, Nat.reduceBEq, Int.reduceBNe, Int.reduceBEq, Bool.true_beq, Bool.false_beq, Vm.S, Nat.reduceLeDiff, q9]
            refine draw_cont [] (.take 0 (.take 1 (.take 2 (.take 3 (.take 5 (.take 6 (.take 7 (.take 8 (.take 9 (.alt 4 (.alt 10 (.take 11 (.done)) .stop) (.alt 10 (.alt 4 (.take 11 (.done)) .stop) (.stop)))))))))))) (fun s h2 => h2 = hx ∧ s 50 = .v (.bool false) ∧ s 1 = .v (.int .u16 id) ∧ s 5 = .ptr V.iv 0 ∧ s 8 = .own true 25 12 (p.map ndAv) ∧ s 9 = .v (.int .i64 i)) (by kernel_rfl) (by kernel_rfl) (by kernel_rfl) (by decide) ?_ ?_
            · repeat' first
                | with_reducible exact True.intro
                | simp -dsimp only [Vm.E, List.lookup, Nat.reduceAdd, Nat.reduceBEq, Int.reduceBNe, Int.reduceBEq, Bool.true_beq, Bool.false_beq, Vm.S, Nat.reduceLeDiff, q9, hwm, Int.toNat_natCast, ndAv, ndCells, AV.cells, hst, bne_self_eq_false]
                | refine idxO_intro (by omega) (by rw [hlen]; omega) ?_
                | refine eltA_intro ga ?_
                | refine eltA_intro gb ?_
                | refine tree_alt ?_ ?_
            · rintro s h2 ⟨rfl, e50, e1, e5, e8, e9⟩
              simp -dsimp only [Vm.E, List.lookup, Nat.reduceAdd, Nat.reduceBEq, Int.reduceBNe, Int.reduceBEq, Bool.true_beq, Bool.false_beq, Vm.S, Nat.reduceLeDiff, q9, e50, e1, e5, e8, e9]
              refine kept_intro ⟨p.length - (i + 1), by omega, _, le_mk [(1, .v (.int .u16 id)), (5, .ptr V.iv 0), (8, .own true 25 12 (p.map ndAv)), (9, .v (.int .i64 (i + 1 : Nat)))] ?_, i + 1, by omega, rfl, rfl, rfl⟩
              simp only [List.forall_mem_cons, List.not_mem_nil, false_imp_iff, implies_true, and_true, hw, e1, e5, e8, e9]
              try simp -dsimp only [Vm.E, List.lookup, Nat.reduceAdd, Nat.reduceBEq, Int.reduceBNe, Int.reduceBEq, Bool.true_beq, Bool.false_beq, Vm.S, Nat.reduceLeDiff, q9, hw, e1, e5, e8, e9]
              repeat' first | exact Fg.refl _ | exact Fg.nil _ _ _ (by decide) | refine And.intro ?_ ?_
          · clear hcc hi1
            cases p with
            | nil =>
              have c0 : decide (((0 : Nat) : Int) > 0) = false := rfl
              have c8 : decide (((0 : Nat) : Int) > 8) = false := rfl
              simp -dsimp only [Vm.E, List.lookup, Nat.reduceAdd, Nat.reduceBEq, Int.reduceBNe, Int.reduceBEq, Bool.true_beq, Bool.false_beq, Vm.S, Nat.reduceLeDiff, q9, c8, c0]
              refine call_one (S := trueSpec) rfl _ GaL.rfl ⟨rfl, fun h2 => ?_⟩
              simp -dsimp only [Vm.E, List.lookup, Nat.reduceAdd, Nat.reduceBEq, Int.reduceBNe, Int.reduceBEq, Bool.true_beq, Bool.false_beq, Vm.S, Nat.reduceLeDiff, q9]
              exact hq _
            | cons n0 r =>
              have hh0 : n0.id = id := p2 n0 r rfl
              have p1 : r.length + 1 ≤ 8 := p1
              have c8 : decide (((r.length + 1 : Nat) : Int) > 8) = false := decide_eq_false (by omega)
              have c0 : decide (((r.length + 1 : Nat) : Int) > 0) = true := decide_eq_true (by omega)
              have gh : ((n0 :: r).map ndAv)[(0 : Int).toNat]? = some (ndAv n0) := rfl
              have hwl : IntKind.i64.wrap (((r.length + 1 : Nat) : Int) - 1) = ((r.length : Nat) : Int) := by rw [wrap_i64 (by omega) (by omega)]; omega
              obtain ⟨nz, gz⟩ : ∃ nz, (n0 :: r)[r.length]? = some nz := ⟨_, List.getElem?_eq_getElem (by simp)⟩
              have gz' : ((n0 :: r).map ndAv)[r.length]? = some (ndAv nz) := by rw [List.getElem?_map, gz]; rfl
              have hz := p4 nz (by simpa using gz)
              simp only [List.length_cons] at hz
              have hlen : ((n0 :: r).map ndAv).length = r.length + 1 := by simp
              have cid : (n0.id != id) = false := by rw [hh0]; simp
              clear p2 p3 p4
              generalize hxs : (n0 :: r).map ndAv = xs at gh gz' hlen ⊢
              simp -dsimp only [Vm.E, List.lookup, Nat.reduceAdd, Nat.reduceBEq, Int.reduceBNe, Int.reduceBEq, Bool.true_beq, Bool.false_beq, Vm.S, Nat.reduceLeDiff, q9, c8, c0, hlen]
              refine idxO_intro (by decide) (by rw [hlen]; omega) ?_
              simp -dsimp only [Vm.E, List.lookup, Nat.reduceAdd, Nat.reduceBEq, Int.reduceBNe, Int.reduceBEq, Bool.true_beq, Bool.false_beq, Vm.S, Nat.reduceLeDiff, q9]
              refine eltA_intro gh ?_
              simp only [ndAv, ndCells]
              simp -dsimp only [Vm.E, List.lookup, Nat.reduceAdd, Nat.reduceBEq, Int.reduceBNe, Int.reduceBEq, Bool.true_beq, Bool.false_beq, Vm.S, Nat.reduceLeDiff, q9, AV.cells, hwid, cid, c0, hlen]
              cases c9 : decide (((r.length + 1 : Nat) : Int) < 8)
              · simp -dsimp only [Vm.E, List.lookup, Nat.reduceAdd, Nat.reduceBEq, Int.reduceBNe, Int.reduceBEq, Bool.true_beq, Bool.false_beq, Vm.S, Nat.reduceLeDiff, q9, c9, hlen]
                refine call_one (S := trueSpec) rfl _ GaL.rfl ⟨rfl, fun h2 => ?_⟩
                simp -dsimp only [Vm.E, List.lookup, Nat.reduceAdd, Nat.reduceBEq, Int.reduceBNe, Int.reduceBEq, Bool.true_beq, Bool.false_beq, Vm.S, Nat.reduceLeDiff, q9]
                exact hq _
              · have d9 := of_decide_eq_true c9
                have hz := hz (by omega)
                simp -dsimp only [Vm.E, List.lookup, Nat.reduceAdd, Nat.reduceBEq, Int.reduceBNe, Int.reduceBEq, Bool.true_beq, Bool.false_beq, Vm.S, Nat.reduceLeDiff, q9, c9, hwl, hlen]
                refine idxO_intro (by omega) (by rw [hlen]; omega) ?_
                simp -dsimp only [Vm.E, List.lookup, Nat.reduceAdd, Nat.reduceBEq, Int.reduceBNe, Int.reduceBEq, Bool.true_beq, Bool.false_beq, Vm.S, Nat.reduceLeDiff, q9, Int.toNat_natCast]
                refine eltA_intro gz' ?_
                simp only [ndAv, ndCells]
                simp -dsimp only [Vm.E, List.lookup, Nat.reduceAdd, Nat.reduceBEq, Int.reduceBNe, Int.reduceBEq, Bool.true_beq, Bool.false_beq, Vm.S, Nat.reduceLeDiff, q9, AV.cells]
                refine call_one (S := tgetSpec) rfl _ GaL.rfl ⟨V, f, 2020, nz.parent, rfl, hV, fun n hno => ?_, fun hno => ?_⟩
                · have hp0 : nz.parent = 0 := hz.resolve_right (by rw [hno]; simp)
                  have ce : (nz.parent != 0) = false := by rw [hp0]; rfl
                  simp only [ndCells]
                  simp -dsimp only [Vm.E, List.lookup, Nat.reduceAdd, Nat.reduceBEq, Int.reduceBNe, Int.reduceBEq, Bool.true_beq, Bool.false_beq, Vm.S, Nat.reduceLeDiff, q9, ce]
                  refine call_one (S := trueSpec) rfl _ GaL.rfl ⟨rfl, fun h2 => ?_⟩
                  simp -dsimp only [Vm.E, List.lookup, Nat.reduceAdd, Nat.reduceBEq, Int.reduceBNe, Int.reduceBEq, Bool.true_beq, Bool.false_beq, Vm.S, Nat.reduceLeDiff, q9]
                  exact hq _
                · simp only [ndCells]
                  simp -dsimp only [Vm.E, List.lookup, Nat.reduceAdd, Nat.reduceBEq, Int.reduceBNe, Int.reduceBEq, Bool.true_beq, Bool.false_beq, Vm.S, Nat.reduceLeDiff, q9]
                  refine call_one (S := trueSpec) rfl _ GaL.rfl ⟨rfl, fun h2 => ?_⟩
                  simp -dsimp only [Vm.E, List.lookup, Nat.reduceAdd, Nat.reduceBEq, Int.reduceBNe, Int.reduceBEq, Bool.true_beq, Bool.false_beq, Vm.S, Nat.reduceLeDiff, q9]
                  exact hq _
  · simp -dsimp only [Vm.E, List.lookup, Nat.reduceAdd, Nat.reduceBEq, Int.reduceBNe, Int.reduceBEq, Bool.true_beq, Bool.false_beq, Vm.S, Nat.reduceLeDiff, q9]
    refine call_one (S := trueSpec) rfl _ GaL.rfl ⟨rfl, fun h2 => ?_⟩
    simp -dsimp only [Vm.E, List.lookup, Nat.reduceAdd, Nat.reduceBEq, Int.reduceBNe, Int.reduceBEq, Bool.true_beq, Bool.false_beq, Vm.S, Nat.reduceLeDiff, q9]
    exact hq _
theorem isA_nd {y : AV} (h : IsA (.agg [.int .i64, .int .i64, .int .i64, .int .i64, .int .i64, .bool, .int .i64, .int .i64, .int .i64, .int .i64, .int .i64, .int .i64]) y) : ∃ n : Nd, n.ok ∧ y = ndAv n := by
  simp only [IsA, IsAll] at h
  obtain ⟨ys, ⟨y1, r1, rfl, h1, y2, r2, rfl, h2, y3, r3, rfl, h3, y4, r4, rfl, h4, y5, r5, rfl, h5, y6, r6, rfl, h6, y7, r7, rfl, h7, y8, r8, rfl, h8, y9, r9, rfl, h9, y10, r10, rfl, h10, y11, r11, rfl, h11, y12, r12, rfl, h12, rfl⟩, rfl⟩ := h
  obtain ⟨a1, k1, rfl⟩ := isA_int (by simpa only [IsA] using h1)
  obtain ⟨a2, k2, rfl⟩ := isA_int (by simpa only [IsA] using h2)
  obtain ⟨a3, k3, rfl⟩ := isA_int (by simpa only [IsA] using h3)
  obtain ⟨a4, k4, rfl⟩ := isA_int (by simpa only [IsA] using h4)
  obtain ⟨a5, k5, rfl⟩ := isA_int (by simpa only [IsA] using h5)
  obtain ⟨a6, rfl⟩ := h6
  obtain ⟨a7, k7, rfl⟩ := isA_int (by simpa only [IsA] using h7)
  obtain ⟨a8, k8, rfl⟩ := isA_int (by simpa only [IsA] using h8)
  obtain ⟨a9, k9, rfl⟩ := isA_int (by simpa only [IsA] using h9)
  obtain ⟨a10, k10, rfl⟩ := isA_int (by simpa only [IsA] using h10)
  obtain ⟨a11, k11, rfl⟩ := isA_int (by simpa only [IsA] using h11)
  obtain ⟨a12, k12, rfl⟩ := isA_int (by simpa only [IsA] using h12)
  exact ⟨⟨a1, a2, a3, a4, a5, a6, a7, a8, a9, a10, a11, a12⟩, ⟨k1, k2, k3, k4, k5, k7, k8, k9, k10, k11, k12⟩, rfl⟩
theorem isA_u16 {x : AV} (h : IsA (.int .u16) x) : ∃ n : Int, 0 ≤ n ∧ n ≤ 65535 ∧ x = .v (.int .u16 n) := by
  simp only [IsA] at h
  obtain ⟨n, hn, rfl⟩ := h
  simp [Lit.wf, IntKind.min, IntKind.max, IntKind.signed, IntKind.bits] at hn
  exact ⟨n, by omega, by omega, rfl⟩
theorem ends_args {y0 y1 : AV} (i0 : IsA (.sl (.agg [.int .i64, .int .i64, .int .i64, .int .i64, .int .i64, .bool, .int .i64, .int .i64, .int .i64, .int .i64, .int .i64, .int .i64])) y0) (i1 : IsA (.int .u16) y1) {Q : AV → Heap → Prop} (hq : ∀ h', Q (.v (.bool true)) h') : endsSpec [y0, y1] [] Q := by
  obtain ⟨l, hl, rfl, hok⟩ := isA_list _ ndAv (fun y hy => isA_nd hy) i0
  obtain ⟨n, h0, h1, rfl⟩ := isA_u16 i1
  exact ⟨l, n, hl, hok, h0, h1, rfl, hq⟩
end Go.Proofs.Lx
