/- What the functions of the program do: their contracts. -/
import Derived.Test.YtiggbkhkmecagaaGreatDoorV2
import Derived.Test.YtiggbkhkmecagaaGreatDoorTFs
import Derived.Test.YtiggbkhkmecagaaGreatDoorW0
import Derived.Test.YtiggbkhkmecagaaGreatDoorShelfSs
/- Strings and numbers sorted, in place: by the kit's laws on Go's own sort. -/
set_option linter.unusedSimpArgs false
set_option linter.unusedVariables false
namespace Go.Proofs.Lx
open Go.Vm Go.RowKit
/-- The world behind a sort of one-cell elements. -/
theorem putRow_heap {α : Type} [Inhabited α] (enc : α → Value) (w : World) (b n : Nat) (d : Array α) (os : Array Obj) :
    (∀ k, k < w.heap.size → k ≠ b → (Sort.grow (Sort.putRow enc (Sort.ahead w n) b 0 d) os).heap[k]? = w.heap[k]?) ∧ w.heap.size ≤ (Sort.grow (Sort.putRow enc (Sort.ahead w n) b 0 d) os).heap.size ∧
      ∀ vs e fr, w.heap[b]? = some (.cells vs e fr) → (Sort.grow (Sort.putRow enc (Sort.ahead w n) b 0 d) os).heap[b]? = some (.cells (Sort.putCells enc 0 d vs) e fr) := by
  have hs : (Sort.putRow enc (Sort.ahead w n) b 0 d).heap.size = w.heap.size := by simp [Sort.putRow, Sort.mapBlock, Sort.ahead]
  have hg : ∀ k, k < w.heap.size → (Sort.grow (Sort.putRow enc (Sort.ahead w n) b 0 d) os).heap[k]? = (w.heap.modify b (Sort.onCells (Sort.putCells enc 0 d)))[k]? := fun k hk => by
    show ((Sort.putRow enc (Sort.ahead w n) b 0 d).heap ++ os)[k]? = _
    rw [Array.getElem?_append_left (by rw [hs]; exact hk)]; rfl
  refine ⟨fun k hk hne => ?_, ?_, fun vs e fr hb => ?_⟩
  · rw [hg k hk, Array.getElem?_modify, if_neg (fun e => hne e.symm)]
  · show w.heap.size ≤ ((Sort.putRow enc (Sort.ahead w n) b 0 d).heap ++ os).size
    rw [Array.size_append, hs]; omega
  · rw [hg b (lt_of_heap hb), Array.getElem?_modify, if_pos rfl, hb]; rfl
def vAv {α : Type} (enc : α → Value) (x : α) : AV := .v (enc x)
theorem flat_v {α : Type} (enc : α → Value) (l : List α) : flat (l.map (vAv enc)) = l.map (vAv enc) := by
  unfold flat
  induction l with
  | nil => rfl
  | cons x r ih => rw [List.map_cons, List.flatMap_cons, ih]; rfl
def sortVSpec {α : Type} (enc : α → Value) (R : List α → Prop) : Vm.Spec := fun args h Q => ∃ (l : List α) (h0 : Heap) (c e : Nat), args = [.osl h0.length 0 l.length c] ∧ h = h0 ++ [.row e (c * 1) (flat (l.map (vAv enc)))] ∧ l.length < 4611686018427387904 ∧ l.length ≤ c ∧
  ∀ l' : List α, l'.Perm l → R l' → Q (.tup []) (h0 ++ [.row e (c * 1) (flat (l'.map (vAv enc)))])
theorem does_sortV {α : Type} [Inhabited α] {f : FuncId} {R : List α → Prop} (enc : α → Value) (hp : ∀ x, plain (enc x) = true) (h1 : ∀ x, (enc x).oneCell' = true) (hcall : Callable Tryz.prog f)
    (key : ∀ (blk cap : Nat) (l : List α) (w : World), Sort.Holds enc w blk 0 l.toArray → blk < w.heap.size → l.length < 4611686018427387904 →
      Calls Tryz.prog f #[.slice (some ⟨blk, 0, none⟩) l.length cap] w fun e w' => e = .returned (.tuple #[]) ∧ ∃ (n : Nat) (os : Array Obj) (l' : List α), (l'.Perm l ∧ R l') ∧ w' = Sort.grow (Sort.putRow enc (Sort.ahead w n) blk 0 l'.toArray) os) :
    Does Tryz.prog f (sortVSpec enc R) := by
  refine ⟨hcall, ?_⟩
  rintro args h Q ⟨l, h0, c, e, rfl, rfl, hln, hlc, hq⟩ w g vs hvs hrep hh hfr hlaid
  have hm : h0.length < g.n := by rw [← hh.n]; simp
  generalize hb : g.loc h0.length = b
  have hrow : RowE w g e (c * 1) (flat (l.map (vAv enc))) b := by
    have : ObjRep w g (.row e (c * 1) (flat (l.map (vAv enc)))) (g.loc h0.length) := hh.obj h0.length _ (heap_last _ _)
    rw [hb] at this; exact this
  have hblt : b < w.heap.size := by rw [← hb]; exact hh.lt _ hm
  have hv0 : vs.getD 0 undef = .slice (some ⟨b, 0, none⟩) l.length c := by
    have := hrep 0 _ rfl
    generalize vs.getD 0 undef = v at this
    cases this with | osl => rw [hb]
  have hvs2 : vs = #[.slice (some ⟨b, 0, none⟩) l.length c] := by
    have h2 : vs.size = 1 := hvs
    apply Array.ext
    · simpa using h2
    · intro i hi1 hi2
      have : i = 0 := by omega
      subst this
      simpa [Array.getD, h2] using hv0
  subst hvs2
  obtain ⟨cur, a1, a2, a3, a4, a5, a6⟩ := hrow
  have hfl : (flat (l.map (vAv enc))).length = l.length := by rw [flat_v, List.length_map]
  have hcur : ∀ j (hj : j < l.length), cur.getD j undef = enc l[j] := fun j hj => by
    have := a6 j (vAv enc l[j]) (by rw [flat_v, List.getElem?_map, List.getElem?_eq_getElem hj]; rfl)
    exact (rep_v this).1
  have hH : Sort.Holds enc w b 0 l.toArray := fun j hj => by
    have hj : j < l.length := by simpa using hj
    have hjc : j < cur.size := by omega
    rw [Nat.zero_add]
    refine ⟨?_, ?_⟩
    · rw [cell_of_row w b j cur e (0, 0) a1]
      have := hcur j hj
      have e2 : (l.toArray)[j]! = l[j] := by rw [getElem!_pos l.toArray j (by simpa using hj)]; simp
      rw [e2, ← this]
      simp [Array.getD, hjc]
    · simp [World.frozen?, a1]
  refine (key b c l w hH hblt hln).mono ?_
  rintro e' w' ⟨rfl, n, os, l', ⟨hperm, hR⟩, rfl⟩
  obtain ⟨q1, q2, q3⟩ := putRow_heap enc w b n l'.toArray os
  have hlen : l'.length = l.length := hperm.length_eq
  generalize hW : Sort.grow (Sort.putRow enc (Sort.ahead w n) b 0 l'.toArray) os = w' at q1 q2 q3
  have hos : w'.os = w.os ∧ w'.tape = w.tape ∧ w'.output = w.output := by rw [← hW]; exact ⟨rfl, rfl, rfl⟩
  have hk : Keeps w g w' g := ⟨fun _ => Nat.le_refl _, fun k j v hj hv => by
    have hkb : k ≠ b := fun e => by rw [e, a4] at hj; omega
    have hkl : k < w.heap.size := by
      rcases Nat.lt_or_ge k w.heap.size with h | h
      · exact h
      · rw [hfr k h] at hj; omega
    rw [World.cell?_of_block (a := ⟨k, j, none⟩) (q1 k hkl hkb)]; exact hv, Nat.le_refl _, fun _ _ => rfl⟩
  have hrow' : RowE w' g e (c * 1) (flat (l'.map (vAv enc))) b := by
    have hnew : ∀ j (hj : j < l'.length), (Sort.putCells enc 0 l'.toArray cur).getD j undef = enc l'[j] := fun j hj => by
      have hjc : j < cur.size := by omega
      have e2 : (l'.toArray)[j]! = l'[j] := by rw [getElem!_pos l'.toArray j (by simpa using hj)]; simp
      rw [← e2]
      simp only [Sort.putCells]
      simp [Array.getD, hjc, hj]
    refine ⟨_, q3 cur e (0, 0) a1, by simp [Sort.putCells, a2], by rw [flat_v, List.length_map]; omega, a4, fun j hj => ?_, fun j u hu => ?_⟩
    · rw [flat_v, List.length_map] at hj
      rw [hnew j hj]; exact h1 _
    · rw [flat_v, List.getElem?_map] at hu
      have hj : j < l'.length := by
        rcases Nat.lt_or_ge j l'.length with h | h
        · exact h
        · rw [List.getElem?_eq_none h] at hu; cases hu
      rw [List.getElem?_eq_getElem hj] at hu
      cases hu
      rw [hnew j hj]
      exact .v (hp _)
  refine ⟨.tup [], h0 ++ [.row e (c * 1) (flat (l'.map (vAv enc)))], g, .tuple #[], hq l' hperm hR, rfl, .tup rfl (fun j u hu => by simp at hu), ?_, ?_, Nat.le_refl _, fun _ _ => rfl, fun _ _ => rfl, fun i hi h1 => by omega, fun k hk' => hfr k (Nat.le_trans q2 hk')⟩
  · refine ⟨by rw [← hh.n]; simp, fun i hi => Nat.lt_of_lt_of_le (hh.lt i hi) q2, hh.inj, fun i o ho => ?_⟩
    rcases Nat.lt_or_ge i h0.length with hi | hi
    · rw [List.getElem?_append_left hi] at ho
      have hig : i < g.n := by omega
      have hne : g.loc i ≠ b := fun e => by
        have := hh.inj i h0.length hig hm (e.trans hb.symm)
        omega
      exact (hh.obj i o (by rw [List.getElem?_append_left hi]; exact ho)).keepAt hk ⟨q1 _ (hh.lt i hig) hne, rfl⟩
    · have hie : i = h0.length := by
        rcases Nat.lt_or_ge i (h0.length + 1) with h | h
        · omega
        · rw [List.getElem?_eq_none (by simp; omega)] at ho; cases ho
      subst hie
      rw [heap_last] at ho
      cases ho
      show RowE _ _ _ _ _ (g.loc h0.length)
      rw [hb]; exact hrow'
  · exact ⟨hos.1, hos.2.1, hos.2.2, q2, fun k hk' hno => q1 k hk' fun e => hno _ hm (hb.trans e.symm)⟩
def sortVNil : Vm.Spec := fun args h Q => args = [.v (.slice none 0 0)] ∧ Q (.tup []) h
theorem does_sortVNil {f : FuncId} (hcall : Callable Tryz.prog f) (key : ∀ w : World, Calls Tryz.prog f #[.slice none 0 0] w fun e w' => e = .returned (.tuple #[]) ∧ w' = w) : Does Tryz.prog f sortVNil := by
  refine ⟨hcall, ?_⟩
  rintro args h Q ⟨rfl, hq⟩ w g vs hvs hrep hh hfr hlaid
  have hv0 : vs.getD 0 undef = .slice none 0 0 := (rep_v (hrep 0 _ rfl)).1
  have hvs2 : vs = #[.slice none 0 0] := by
    have h2 : vs.size = 1 := hvs
    apply Array.ext
    · simpa using h2
    · intro i hi1 hi2
      have : i = 0 := by omega
      subst this
      simpa [Array.getD, h2] using hv0
  rw [hvs2]
  refine (key w).mono ?_
  rintro e' w' ⟨rfl, rfl⟩
  exact ⟨.tup [], h, g, .tuple #[], hq, rfl, .tup rfl (fun j u hu => by simp at hu), hh, ⟨rfl, rfl, rfl, Nat.le_refl _, fun _ _ _ => rfl⟩, Nat.le_refl _, fun _ _ => rfl, fun _ _ => rfl, fun i hi h1 => by omega, hfr⟩
theorem does_sortI : Does Tryz.prog 163 (orS (sortVSpec (Value.int .i64) fun l => l.Pairwise (· ≤ ·)) sortVNil) :=
  have hc : Callable Tryz.prog 163 := ⟨Tryz.f163, Tryz.func163, by kernel_rfl, by decide +kernel⟩
  does_or (does_sortV (Value.int .i64) (fun _ => rfl) (fun _ => rfl) hc fun blk cap l w hH hb hl => (Any.slices_Sort_int Tryz.sortInt blk 0 cap l w hH hb hl).mono fun e w' ⟨h1, n, os, h2⟩ => ⟨h1, n, os, _, ⟨List.mergeSort_perm .., by
      have := List.pairwise_mergeSort (le := fun x y : Int => decide (x ≤ y)) (fun x y z h1 h2 => by simp only [decide_eq_true_eq] at *; omega) (fun x y => by simp only [Bool.or_eq_true, decide_eq_true_eq]; omega) l
      exact this.imp fun h => by simpa using h⟩, h2⟩)
    (does_sortVNil hc fun w => Any.slices_Sort_int_none Tryz.sortInt none 0 w)
end Go.Proofs.Lx
/- Ints that stay: IndexFunc, DeleteFunc, IsSorted, Compact; the chart's objects; law21.awake. -/
set_option linter.unusedSimpArgs false
set_option linter.unusedVariables false
namespace Go.Proofs.Lx
open Go.Vm
attribute [local irreducible] awpArr awpBin awpMake awpAppend awpCvX awpStrOf awpBinX awpSlice awpBS awpStore awpAlloc awpCopy awpIndex awpDraw awpIdxX awpFa awpField awpLookup awpUpdate awpDelete awpClear awpRange awpNext awpEntry awpBuild awpClearS awpIdxL awpTree appB awpIdxO eltA treeA
theorem flat_ints (l : List Int) : flat (l.map encI) = l.map encI := by
  induction l with
  | nil => rfl
  | cons x r ih =>
    show encI x :: flat (r.map encI) = _
    rw [ih]; rfl
def ixISpec (T : Tab) : Vm.Spec := fun args h Q => ∃ (g : FuncId) (p : Int → Bool) (l : List Int) (id c e m : Nat), T g = some (predSpec p) ∧ args = [.osl id 0 l.length c, .clo g []] ∧ h[id]? = some (.row e m (l.map encI)) ∧ l.length ≤ 4611686018427387904 ∧ (∀ x ∈ l, p x = false) ∧ Q (.v (.int .i64 (-1))) h
theorem does_ixI {T : Tab} (hT : Good T) : Does Tryz.prog 229 (ixISpec T) := by
  refine does_of_awp hT Tryz.func229 rfl (by decide +kernel) (by decide +kernel) ?_
  rintro args h Q ⟨g, p, l, id, c, e, m, hg, rfl, hh, hl, hp, hq⟩
  refine ⟨by simp [Tryz.f229], ?_⟩
  rw [awpFunc_some (by rfl)]
  simp -dsimp only [Vm.G, List.lookup, Nat.reduceAdd, Nat.reduceBEq, Int.reduceBNe, Int.reduceBEq, Nat.reduceLeDiff, q229]
  refine awp_loop (fun m s h' => ∃ i : Nat, i + m = l.length ∧ h' = h ∧ s = mk [(0, .osl id 0 l.length c), (1, .clo g []), (7, .v (.int .i64 l.length)), (8, .v (.int .i64 (i : Nat)))])
    l.length _ (le_mk _ ?_) ⟨0, by omega, rfl, rfl⟩ ?_
  · simp only [List.forall_mem_cons, List.not_mem_nil, false_imp_iff, implies_true, and_true]
    try simp -dsimp only [Vm.G, List.lookup, Nat.reduceAdd, Nat.reduceBEq, Int.reduceBNe, Int.reduceBEq, Nat.reduceLeDiff, q229]
    repeat' first | exact Fg.refl _ | exact Fg.nil _ _ _ (by decide) | refine And.intro ?_ ?_
  · rintro m s h' ⟨i, hi, rfl, rfl⟩
    simp -dsimp only [Vm.G, List.lookup, Nat.reduceAdd, Nat.reduceBEq, Int.reduceBNe, Int.reduceBEq, Nat.reduceLeDiff, q229]
    refine cond_intro (fun hcc => ?_) (fun hcc => ?_)
    · have hlt : i < l.length := by have := of_decide_eq_true hcc; omega
      have hw : IntKind.i64.wrap ((i : Int) + 1) = ((i + 1 : Nat) : Int) := by rw [wrap_i64 (by omega) (by omega)]; simp
      have hd : (l.map encI).drop i = encI l[i] :: (l.map encI).drop (i + 1) := by
        rw [List.drop_eq_getElem_cons (by rw [List.length_map]; exact hlt), List.getElem_map]
      have hpx := hp l[i] (List.getElem_mem hlt)
      generalize l[i] = x at hd hpx
      simp -dsimp only [Vm.G, List.lookup, Nat.reduceAdd, Nat.reduceBEq, Int.reduceBNe, Int.reduceBEq, Nat.reduceLeDiff, q229]
      refine idxL_intro (by omega) (by omega) ?_
      simp -dsimp only [Vm.G, List.lookup, Nat.reduceAdd, Nat.reduceBEq, Int.reduceBNe, Int.reduceBEq, Nat.reduceLeDiff, q229, hh, Int.toNat_natCast, Nat.mul_one, hd, encI]
      refine call_one (S := predSpec p) hg _ GaL.rfl ⟨x, rfl, ?_⟩
      rw [hpx]
      simp -dsimp only [Vm.G, List.lookup, Nat.reduceAdd, Nat.reduceBEq, Int.reduceBNe, Int.reduceBEq, Nat.reduceLeDiff, q229]
      refine kept_intro ⟨l.length - (i + 1), by omega, _, le_mk [(0, .osl id 0 l.length c), (1, .clo g []), (7, .v (.int .i64 l.length)), (8, .v (.int .i64 (i + 1 : Nat)))] ?_, i + 1, by omega, rfl, rfl⟩
      simp only [List.forall_mem_cons, List.not_mem_nil, false_imp_iff, implies_true, and_true, hw]
      try simp -dsimp only [Vm.G, List.lookup, Nat.reduceAdd, Nat.reduceBEq, Int.reduceBNe, Int.reduceBEq, Nat.reduceLeDiff, q229, hw]
      repeat' first | exact Fg.refl _ | exact Fg.nil _ _ _ (by decide) | refine And.intro ?_ ?_
    · simp -dsimp only [Vm.G, List.lookup, Nat.reduceAdd, Nat.reduceBEq, Int.reduceBNe, Int.reduceBEq, Nat.reduceLeDiff, q229]
      exact hq
def ixINil : Vm.Spec := fun args h Q => ∃ g, args = [.v (.slice none 0 0), .clo g []] ∧ Q (.v (.int .i64 (-1))) h
theorem does_ixINil : Does Tryz.prog 229 ixINil := by
  refine does_of_awp good_nil Tryz.func229 rfl (by decide +kernel) (by decide +kernel) ?_
  rintro args h Q ⟨g, rfl, hq⟩
  refine ⟨by simp [Tryz.f229], ?_⟩
  rw [awpFunc_some (by rfl)]
  simp -dsimp only [Vm.G, List.lookup, Nat.reduceAdd, Nat.reduceBEq, Int.reduceBNe, Int.reduceBEq, Nat.reduceLeDiff, q229]
  refine awp_loop (fun m' s h' => h' = h ∧ s = mk [(7, .v (.int .i64 0)), (8, .v (.int .i64 0))]) 0 _ (le_mk _ ?_) ⟨rfl, rfl⟩ ?_
  · simp only [List.forall_mem_cons, List.not_mem_nil, false_imp_iff, implies_true, and_true]
    try simp -dsimp only [Vm.G, List.lookup, Nat.reduceAdd, Nat.reduceBEq, Int.reduceBNe, Int.reduceBEq, Nat.reduceLeDiff, q229]
    repeat' first | exact Fg.refl _ | exact Fg.nil _ _ _ (by decide) | refine And.intro ?_ ?_
  · rintro m' s h' ⟨rfl, rfl⟩
    simp -dsimp only [Vm.G, List.lookup, Nat.reduceAdd, Nat.reduceBEq, Int.reduceBNe, Int.reduceBEq, Nat.reduceLeDiff, q229]
    refine cond_intro (fun hcc => ?_) (fun hcc => ?_)
    · have := of_decide_eq_true hcc
      omega
    · simp -dsimp only [Vm.G, List.lookup, Nat.reduceAdd, Nat.reduceBEq, Int.reduceBNe, Int.reduceBEq, Nat.reduceLeDiff, q229]
      exact hq
/-- Nothing goes. -/
def delISpec (T : Tab) : Vm.Spec := fun args h Q => ∃ (g : FuncId) (p : Int → Bool) (l : List Int) (id c e m : Nat), T g = some (predSpec p) ∧ args = [.osl id 0 l.length c, .clo g []] ∧ h[id]? = some (.row e m (l.map encI)) ∧ l.length ≤ 4611686018427387904 ∧ (∀ x ∈ l, p x = false) ∧ Q (.osl id 0 l.length c) h
theorem does_delI {T T2 : Tab} (hT : Good T) (hg0 : T 229 = some (orS (ixISpec T2) ixINil)) : Does Tryz.prog 161 (delISpec T2) := by
  refine does_of_awp hT Tryz.func161 rfl (by decide +kernel) (by decide +kernel) ?_
  rintro args h Q ⟨g, p, l, id, c, e, m, hg, rfl, hh, hl, hp, hq⟩
  refine ⟨by simp [Tryz.f161], ?_⟩
  rw [awpFunc_some (by rfl)]
  simp -dsimp only [Vm.G, List.lookup, Nat.reduceAdd, Nat.reduceBEq, Int.reduceBNe, Int.reduceBEq, Nat.reduceLeDiff, q161]
  refine call_one (S := orS (ixISpec T2) ixINil) hg0 _ GaL.rfl (.inl ⟨g, p, l, id, c, e, m, hg, rfl, hh, hl, hp, ?_⟩)
  simp -dsimp only [Vm.G, List.lookup, Nat.reduceAdd, Nat.reduceBEq, Int.reduceBNe, Int.reduceBEq, Nat.reduceLeDiff, q161, beq_self_eq_true]
  exact hq
def delINil : Vm.Spec := fun args h Q => ∃ g, args = [.v (.slice none 0 0), .clo g []] ∧ Q (.v (.slice none 0 0)) h
theorem does_delINil {T T2 : Tab} (hT : Good T) (hg0 : T 229 = some (orS (ixISpec T2) ixINil)) : Does Tryz.prog 161 delINil := by
  refine does_of_awp hT Tryz.func161 rfl (by decide +kernel) (by decide +kernel) ?_
  rintro args h Q ⟨g, rfl, hq⟩
  refine ⟨by simp [Tryz.f161], ?_⟩
  rw [awpFunc_some (by rfl)]
  simp -dsimp only [Vm.G, List.lookup, Nat.reduceAdd, Nat.reduceBEq, Int.reduceBNe, Int.reduceBEq, Nat.reduceLeDiff, q161]
  refine call_one (S := orS (ixISpec T2) ixINil) hg0 _ GaL.rfl (.inr ⟨g, rfl, ?_⟩)
  simp -dsimp only [Vm.G, List.lookup, Nat.reduceAdd, Nat.reduceBEq, Int.reduceBNe, Int.reduceBEq, Nat.reduceLeDiff, q161, beq_self_eq_true]
  exact hq
def outP (n : Int) : Bool := decide (n < 1000) || decide (n > 5999)
theorem does_outP : Does Tryz.prog 162 (predSpec outP) := by
  refine does_of_awp good_nil Tryz.func162 rfl (by decide +kernel) (by decide +kernel) ?_
  rintro args h Q ⟨n, rfl, hq⟩
  refine ⟨by simp [Tryz.f162], ?_⟩
  rw [awpFunc_some (by rfl)]
  unfold outP at hq
  simp -dsimp only [Vm.G, List.lookup, Nat.reduceAdd, Nat.reduceBEq, Int.reduceBNe, Int.reduceBEq, Nat.reduceLeDiff, q162]
  cases c1 : decide (n < 1000)
  · rw [c1] at hq
    simp -dsimp only [Vm.G, List.lookup, Nat.reduceAdd, Nat.reduceBEq, Int.reduceBNe, Int.reduceBEq, Nat.reduceLeDiff, q162]
    exact hq
  · rw [c1] at hq
    simp -dsimp only [Vm.G, List.lookup, Nat.reduceAdd, Nat.reduceBEq, Int.reduceBNe, Int.reduceBEq, Nat.reduceLeDiff, q162]
    exact hq
def keepT : Tab := tab [(160, predSpec fixedP), (162, predSpec outP)]
theorem good_keepT : Good keepT := good_cons does_fixedC (good_cons does_outP good_nil)
def keepT2 : Tab := tab [(229, orS (ixISpec keepT) ixINil)]
theorem good_keepT2 : Good keepT2 := good_cons (does_or (does_ixI good_keepT) does_ixINil) good_nil
theorem does_delInts : Does Tryz.prog 161 (orS (delISpec keepT) delINil) :=
  does_or (does_delI (T2 := keepT) good_keepT2 rfl) (does_delINil (T2 := keepT) good_keepT2 rfl)
def lessISpec : Vm.Spec := fun args h Q => ∃ a b : Int, args = [.v (.int .i64 a), .v (.int .i64 b)] ∧ Q (.v (.bool (decide (a < b)))) h
theorem does_lessI : Does Tryz.prog 90 lessISpec := by
  refine does_of_awp (good_cons does_isNaN good_nil) Tryz.func90 rfl (by decide +kernel) (by decide +kernel) ?_
  rintro args h Q ⟨a, b, rfl, hq⟩
  refine ⟨by simp [Tryz.f90], ?_⟩
  rw [awpFunc_some (by rfl)]
  simp -dsimp only [Vm.G, List.lookup, Nat.reduceAdd, Nat.reduceBEq, Int.reduceBNe, Int.reduceBEq, Nat.reduceLeDiff, q90]
  refine call_one (S := isNaNSpec) rfl _ GaL.rfl ⟨a, rfl, ?_⟩
  simp -dsimp only [Vm.G, List.lookup, Nat.reduceAdd, Nat.reduceBEq, Int.reduceBNe, Int.reduceBEq, Nat.reduceLeDiff, q90]
  exact hq
def sortedISpec : Vm.Spec := fun args h Q => ∃ l : List Int, l.length ≤ 4611686018427387904 ∧ l.Pairwise (· < ·) ∧ args = [.sl 1 (l.map encI)] ∧ Q (.v (.bool true)) h
theorem does_sortedI : Does Tryz.prog 17 sortedISpec := by
  refine does_of_awp (good_cons does_lessI good_nil) Tryz.func17 rfl (by decide +kernel) (by decide +kernel) ?_
  rintro args h Q ⟨l, hl, hp, rfl, hq⟩
  refine ⟨by simp [Tryz.f17], ?_⟩
  rw [awpFunc_some (by rfl)]
  have hw0 : IntKind.i64.wrap ((l.length : Int) - 1) = (l.length : Int) - 1 := wrap_i64 (by omega) (by omega)
  simp -dsimp only [Vm.G, List.lookup, Nat.reduceAdd, Nat.reduceBEq, Int.reduceBNe, Int.reduceBEq, Nat.reduceLeDiff, q17, hw0]
  refine awp_loop (fun m s h' => ∃ i : Nat, i = m ∧ i ≤ l.length ∧ h' = h ∧ s = mk [(0, .sl 1 (l.map encI)), (3, .v (.int .i64 (((i : Nat) : Int) - 1)))])
    l.length _ (le_mk _ ?_) ⟨l.length, rfl, Nat.le_refl _, rfl, rfl⟩ ?_
  · simp only [List.forall_mem_cons, List.not_mem_nil, false_imp_iff, implies_true, and_true]
    try simp -dsimp only [Vm.G, List.lookup, Nat.reduceAdd, Nat.reduceBEq, Int.reduceBNe, Int.reduceBEq, Nat.reduceLeDiff, q17]
    repeat' first | exact Fg.refl _ | exact Fg.nil _ _ _ (by decide) | refine And.intro ?_ ?_
  · rintro m s h' ⟨i, rfl, hi, rfl, rfl⟩
    simp -dsimp only [Vm.G, List.lookup, Nat.reduceAdd, Nat.reduceBEq, Int.reduceBNe, Int.reduceBEq, Nat.reduceLeDiff, q17]
    refine cond_intro (fun hcc => ?_) (fun hcc => ?_)
    · have hge : 2 ≤ i := by have := of_decide_eq_true hcc; omega
      obtain ⟨j, rfl⟩ : ∃ j, i = j + 2 := ⟨i - 2, by omega⟩
      have e1 : ((j + 2 : Nat) : Int) - 1 = ((j + 1 : Nat) : Int) := by omega
      have e2 : IntKind.i64.wrap (((j + 1 : Nat) : Int) - 1) = ((j : Nat) : Int) := by rw [wrap_i64 (by omega) (by omega)]; omega
      have hlt := List.pairwise_iff_getElem.1 hp j (j + 1) (by omega) (by omega) (by omega)
      have hl1 : j + 1 < l.length := by omega
      have hl0 : j < l.length := by omega
      have hxe : ∃ x, l[j + 1] = x := ⟨_, rfl⟩
      have hye : ∃ y, l[j] = y := ⟨_, rfl⟩
      rcases hxe with ⟨x, hx⟩
      rcases hye with ⟨y, hy⟩
      rw [hx, hy] at hlt
      have hc : decide (x < y) = false := decide_eq_false (by omega)
      clear hcc
      simp -dsimp only [Vm.G, List.lookup, Nat.reduceAdd, Nat.reduceBEq, Int.reduceBNe, Int.reduceBEq, Nat.reduceLeDiff, q17, e1]
      refine draw_cont [] (.take 0 (.take 1 (.take 2 (.take 3 (.take 4 (.take 5 (.take 6 (.take 7 (.take 8 (.alt 9 (.done) .stop)))))))))) (fun s h2 => h2 = h' ∧ s 20 = .v (.bool false) ∧ s 0 = .sl 1 (l.map encI) ∧ s 3 = .v (.int .i64 ((j + 1 : Nat) : Int))) (by kernel_rfl) (by kernel_rfl) (by kernel_rfl) (by decide) ?_ ?_
      · clear hq
        simp -dsimp only [Vm.G, List.lookup, Nat.reduceAdd, Nat.reduceBEq, Int.reduceBNe, Int.reduceBEq, Nat.reduceLeDiff, q17, e2]
        refine idx_ints l (j + 1) hl1 ?_
        simp only [hx]
        simp -dsimp only [Vm.G, List.lookup, Nat.reduceAdd, Nat.reduceBEq, Int.reduceBNe, Int.reduceBEq, Nat.reduceLeDiff, q17, e2]
        refine idx_ints l j hl0 ?_
        simp only [hy]
        simp -dsimp only [Vm.G, List.lookup, Nat.reduceAdd, Nat.reduceBEq, Int.reduceBNe, Int.reduceBEq, Nat.reduceLeDiff, q17]
        refine call_one (S := lessISpec) rfl _ GaL.rfl ⟨x, y, rfl, ?_⟩
        rw [hc]
        simp -dsimp only [Vm.G, List.lookup, Nat.reduceAdd, Nat.reduceBEq, Int.reduceBNe, Int.reduceBEq, Nat.reduceLeDiff, q17]
        repeat' first | rfl | exact True.intro | refine And.intro ?_ ?_
      · rintro s h2 ⟨rfl, e20, e0, e5⟩
        simp -dsimp only [Vm.G, List.lookup, Nat.reduceAdd, Nat.reduceBEq, Int.reduceBNe, Int.reduceBEq, Nat.reduceLeDiff, q17, e20, e0, e5, e2]
        refine kept_intro ⟨j + 1, by omega, _, le_mk [(0, .sl 1 (l.map encI)), (3, .v (.int .i64 (((j + 1 : Nat) : Int) - 1)))] ?_, j + 1, rfl, by omega, rfl, rfl⟩
        have e3 : ((j + 1 : Nat) : Int) - 1 = ((j : Nat) : Int) := by omega
        simp only [List.forall_mem_cons, List.not_mem_nil, false_imp_iff, implies_true, and_true, e3, e2, e20, e0, e5]
        try simp -dsimp only [Vm.G, List.lookup, Nat.reduceAdd, Nat.reduceBEq, Int.reduceBNe, Int.reduceBEq, Nat.reduceLeDiff, q17, e3, e2, e20, e0, e5]
        repeat' first | exact Fg.refl _ | exact Fg.nil _ _ _ (by decide) | refine And.intro ?_ ?_
    · simp -dsimp only [Vm.G, List.lookup, Nat.reduceAdd, Nat.reduceBEq, Int.reduceBNe, Int.reduceBEq, Nat.reduceLeDiff, q17]
      exact hq
def compactISpec : Vm.Spec := fun args h Q => ∃ l : List Int, l.length ≤ 4611686018427387904 ∧ l.Pairwise (· < ·) ∧ args = [.sl 1 (l.map encI)] ∧ Q (.sl 1 (l.map encI)) h
theorem does_compactI : Does Tryz.prog 18 compactISpec := by
  refine does_of_awp good_nil Tryz.func18 rfl (by decide +kernel) (by decide +kernel) ?_
  rintro args h Q ⟨l, hl, hp, rfl, hq⟩
  refine ⟨by simp [Tryz.f18], ?_⟩
  rw [awpFunc_some (by rfl)]
  simp -dsimp only [Vm.G, List.lookup, Nat.reduceAdd, Nat.reduceBEq, Int.reduceBNe, Int.reduceBEq, Nat.reduceLeDiff, q18]
  have h0 := Bool.eq_false_or_eq_true (decide ((l.length : Int) < 2))
  rcases h0 with c0 | c0
  · simp -dsimp only [Vm.G, List.lookup, Nat.reduceAdd, Nat.reduceBEq, Int.reduceBNe, Int.reduceBEq, Nat.reduceLeDiff, q18, c0]
    exact hq
  · have d0 := of_decide_eq_false c0
    simp -dsimp only [Vm.G, List.lookup, Nat.reduceAdd, Nat.reduceBEq, Int.reduceBNe, Int.reduceBEq, Nat.reduceLeDiff, q18, c0]
    refine awp_loop (fun m s h' => ∃ i : Nat, 1 ≤ i ∧ i + m = l.length ∧ h' = h ∧ s = mk [(0, .sl 1 (l.map encI)), (3, .v (.int .i64 (i : Nat)))])
      (l.length - 1) _ (le_mk _ ?_) ⟨1, by omega, by omega, rfl, rfl⟩ ?_
    · simp only [List.forall_mem_cons, List.not_mem_nil, false_imp_iff, implies_true, and_true]
      try simp -dsimp only [Vm.G, List.lookup, Nat.reduceAdd, Nat.reduceBEq, Int.reduceBNe, Int.reduceBEq, Nat.reduceLeDiff, q18]
      repeat' first | exact Fg.refl _ | exact Fg.nil _ _ _ (by decide) | refine And.intro ?_ ?_
    · rintro m s h' ⟨i, hi1, hi, rfl, rfl⟩
      simp -dsimp only [Vm.G, List.lookup, Nat.reduceAdd, Nat.reduceBEq, Int.reduceBNe, Int.reduceBEq, Nat.reduceLeDiff, q18]
      refine cond_intro (fun hcc => ?_) (fun hcc => ?_)
      · have hl1 : i < l.length := by have := of_decide_eq_true hcc; omega
        obtain ⟨j, rfl⟩ : ∃ j, i = j + 1 := ⟨i - 1, by omega⟩
        have e1 : IntKind.i64.wrap (((j + 1 : Nat) : Int) + 1) = ((j + 1 + 1 : Nat) : Int) := by rw [wrap_i64 (by omega) (by omega)]; omega
        have e2 : IntKind.i64.wrap (((j + 1 : Nat) : Int) - 1) = ((j : Nat) : Int) := by rw [wrap_i64 (by omega) (by omega)]; omega
        have hlt := List.pairwise_iff_getElem.1 hp j (j + 1) (by omega) (by omega) (by omega)
        have hl0 : j < l.length := by omega
        have hxe : ∃ x, l[j + 1] = x := ⟨_, rfl⟩
        have hye : ∃ y, l[j] = y := ⟨_, rfl⟩
        rcases hxe with ⟨x, hx⟩
        rcases hye with ⟨y, hy⟩
        rw [hx, hy] at hlt
        have hc : (x == y) = false := by simp; omega
        clear hcc
        simp -dsimp only [Vm.G, List.lookup, Nat.reduceAdd, Nat.reduceBEq, Int.reduceBNe, Int.reduceBEq, Nat.reduceLeDiff, q18]
        refine draw_cont [] (.take 0 (.take 1 (.take 2 (.take 3 (.take 4 (.take 5 (.take 6 (.take 7 (.take 8 (.take 9 (.done))))))))))) (fun s h2 => h2 = h' ∧ s 25 = .v (.bool false) ∧ s 0 = .sl 1 (l.map encI) ∧ s 3 = .v (.int .i64 ((j + 1 : Nat) : Int))) (by kernel_rfl) (by kernel_rfl) (by kernel_rfl) (by decide) ?_ ?_
        · clear hq
          simp -dsimp only [Vm.G, List.lookup, Nat.reduceAdd, Nat.reduceBEq, Int.reduceBNe, Int.reduceBEq, Nat.reduceLeDiff, q18, e2]
          refine idx_ints l (j + 1) hl1 ?_
          simp only [hx]
          simp -dsimp only [Vm.G, List.lookup, Nat.reduceAdd, Nat.reduceBEq, Int.reduceBNe, Int.reduceBEq, Nat.reduceLeDiff, q18, e2]
          refine idx_ints l j hl0 ?_
          simp only [hy]
          simp -dsimp only [Vm.G, List.lookup, Nat.reduceAdd, Nat.reduceBEq, Int.reduceBNe, Int.reduceBEq, Nat.reduceLeDiff, q18, hc]
          try repeat' first | rfl | exact True.intro | refine And.intro ?_ ?_
        · rintro s h2 ⟨rfl, e25, e0, e3⟩
          simp -dsimp only [Vm.G, List.lookup, Nat.reduceAdd, Nat.reduceBEq, Int.reduceBNe, Int.reduceBEq, Nat.reduceLeDiff, q18, e25, e0, e3, e1]
          refine kept_intro ⟨l.length - (j + 2), by omega, _, le_mk [(0, .sl 1 (l.map encI)), (3, .v (.int .i64 (j + 1 + 1 : Nat)))] ?_, j + 1 + 1, by omega, by omega, rfl, rfl⟩
          simp only [List.forall_mem_cons, List.not_mem_nil, false_imp_iff, implies_true, and_true, e1, e25, e0, e3]
          try simp -dsimp only [Vm.G, List.lookup, Nat.reduceAdd, Nat.reduceBEq, Int.reduceBNe, Int.reduceBEq, Nat.reduceLeDiff, q18, e1, e25, e0, e3]
          repeat' first | exact Fg.refl _ | exact Fg.nil _ _ _ (by decide) | refine And.intro ?_ ?_
      · simp -dsimp only [Vm.G, List.lookup, Nat.reduceAdd, Nat.reduceBEq, Int.reduceBNe, Int.reduceBEq, Nat.reduceLeDiff, q18]
        exact hq
end Go.Proofs.Lx
/- The chart's objects; law21.awake. -/
set_option linter.unusedSimpArgs false
set_option linter.unusedVariables false
namespace Go.Proofs.Lx
open Go.Vm
attribute [local irreducible] awpArr awpBin awpMake awpAppend awpCvX awpStrOf awpBinX awpSlice awpBS awpStore awpAlloc awpCopy awpIndex awpDraw awpIdxX awpFa awpField awpLookup awpUpdate awpDelete awpClear awpRange awpNext awpEntry awpBuild awpClearS awpIdxL awpTree appB awpIdxO eltA treeA
def objP (n : Int) : Bool := decide (1000 ≤ n) && decide (n ≤ 5999)
theorem does_objP : Does Tryz.prog 157 (predSpec objP) := by
  refine does_of_awp (good_cons does_withinC good_nil) Tryz.func157 rfl (by decide +kernel) (by decide +kernel) ?_
  rintro args h Q ⟨n, rfl, hq⟩
  refine ⟨by simp [Tryz.f157], ?_⟩
  rw [awpFunc_some (by rfl)]
  unfold objP at hq
  simp -dsimp only [Vm.G, List.lookup, Nat.reduceAdd, Nat.reduceBEq, Int.reduceBNe, Int.reduceBEq, Nat.reduceLeDiff, q157]
  refine call_one (S := withinSpec) rfl _ GaL.rfl ⟨n, 1000, 5999, rfl, ?_⟩
  simp -dsimp only [Vm.G, List.lookup, Nat.reduceAdd, Nat.reduceBEq, Int.reduceBNe, Int.reduceBEq, Nat.reduceLeDiff, q157]
  exact hq
/-- Objects of which none is fixed. -/
def cOwnSpec : Vm.Spec := fun args h Q => ∃ (V : VId) (f : Fun), args = [.ptr V.iv 0] ∧ isView h V f ∧ f.n ≤ 536870912 ∧ (∀ l, ScanIs f [79] l → ∀ x ∈ allF l, fixedP x = false) ∧
  ∀ l h', ScanIs f [79] l → l.length ≤ 2 * f.n → isView h' V f → Same h h' [] → Q (.own true 3 1 ((allF l).map encI)) h'
theorem does_cOwn : Does Tryz.prog 158 cOwnSpec := by
  refine does_of_awp (good_cons does_cAll (good_cons does_delInts good_nil)) Tryz.func158 rfl (by decide +kernel) (by decide +kernel) ?_
  rintro args h Q ⟨V, f, rfl, hV, hn, hfx, hq⟩
  refine ⟨by simp [Tryz.f158], ?_⟩
  rw [awpFunc_some (by rfl)]
  simp -dsimp only [Vm.G, List.lookup, Nat.reduceAdd, Nat.reduceBEq, Int.reduceBNe, Int.reduceBEq, Nat.reduceLeDiff, q158]
  refine call_one (S := cAllSpec) rfl _ GaL.rfl ⟨V, f, 79, rfl, hV, hn, fun l h1 hsc hln hV1 hs1 => ?_⟩
  have hfl := hfx l hsc
  have hq1 := hq l h1 hsc hln hV1 hs1
  have hal : (allF l).length ≤ l.length := List.length_filterMap_le ..
  generalize allF l = A at hfl hq1 hal ⊢
  simp -dsimp only [Vm.G, List.lookup, Nat.reduceAdd, Nat.reduceBEq, Int.reduceBNe, Int.reduceBEq, Nat.reduceLeDiff, q158]
  refine call_in _ _ _ ?_
  simp -dsimp only [Vm.G, List.lookup, Nat.reduceAdd, Nat.reduceBEq, Int.reduceBNe, Int.reduceBEq, Nat.reduceLeDiff, q158, callI_eq, ownSl_own, ownSl_alias]
  refine callI_ret (S := orS (delISpec keepT) delINil) (xs' := A.map encI) rfl (fun x hx => hx) (fun hx => ⟨hx, fun Q' hq' => .inr ⟨_, rfl, hq'⟩⟩)
    (fun c hc Q' hq' => .inl ⟨160, fixedP, A, h1.length, c, 3, c * 1, rfl, by rw [List.length_map], by rw [heap_last, flat_ints], by omega, hfl, ?_⟩) ?_
  · have := hq' (flat (A.map encI)) (by rw [flat_ints, List.take_of_length_le (by simp)])
    rw [List.length_map] at this
    exact this
  · simp -dsimp only [Vm.G, List.lookup, Nat.reduceAdd, Nat.reduceBEq, Int.reduceBNe, Int.reduceBEq, Nat.reduceLeDiff, q158]
    exact hq1
def cNewObjSpec : Vm.Spec := fun args h Q => ∃ (V : VId) (f : Fun) (n : Int), args = [.ptr V.iv 0, .v (.int .i64 n)] ∧ isView h V f ∧ f.n ≤ 536870912 ∧ objP n = true ∧ objOk f n = false ∧ (∀ l, ScanIs f [79] l → allF l = []) ∧
  ∀ h', isView h' V (upd f (objK n) (some [])) → Same h h' [V.ic] → Q (.v (.int .i64 0)) h'
set_option maxRecDepth 20000 in
theorem does_cNewObj : Does Tryz.prog 80 cNewObjSpec := by
  refine does_of_awp (good_cons does_objP (good_cons does_cObj (good_cons does_cOwn (good_cons does_key (good_cons does_vput good_nil))))) Tryz.func80 rfl (by decide +kernel) (by decide +kernel) ?_
  rintro args h Q ⟨V, f, n, rfl, hV, hn, ho, hno, hem, hq⟩
  refine ⟨by simp [Tryz.f80], ?_⟩
  rw [awpFunc_some (by rfl)]
  simp -dsimp only [Vm.G, List.lookup, Nat.reduceAdd, Nat.reduceBEq, Int.reduceBNe, Int.reduceBEq, Nat.reduceLeDiff, q80]
  refine call_one (S := predSpec objP) rfl _ GaL.rfl ⟨n, rfl, ?_⟩
  rw [ho]
  simp -dsimp only [Vm.G, List.lookup, Nat.reduceAdd, Nat.reduceBEq, Int.reduceBNe, Int.reduceBEq, Nat.reduceLeDiff, q80]
  refine call_one (S := cObjSpec) rfl _ GaL.rfl ⟨V, f, n, rfl, hV, ?_⟩
  rw [hno]
  simp -dsimp only [Vm.G, List.lookup, Nat.reduceAdd, Nat.reduceBEq, Int.reduceBNe, Int.reduceBEq, Nat.reduceLeDiff, q80]
  refine call_one (S := cOwnSpec) rfl _ GaL.rfl ⟨V, f, rfl, hV, hn, fun l hl x hx => (by rw [hem l hl] at hx; cases hx), fun l h1 hsc hln hV1 hs1 => ?_⟩
  rw [hem l hsc]
  have k0 : decide (((0 : Nat) : Int) ≥ 60) = false := by decide
  simp -dsimp only [Vm.G, List.lookup, Nat.reduceAdd, Nat.reduceBEq, Int.reduceBNe, Int.reduceBEq, Nat.reduceLeDiff, q80, List.map_nil, List.length_nil, k0]
  refine bs_intro zr3 (by decide) (by decide) rfl rfl (by simp [solid, AV.cells]) ?_
  simp -dsimp only [Vm.G, List.lookup, Nat.reduceAdd, Nat.reduceBEq, Int.reduceBNe, Int.reduceBEq, Nat.reduceLeDiff, q80]
  refine call_one (S := keySpec) rfl _ GaL.rfl ⟨79, [n], by simp, rfl, ?_⟩
  simp -dsimp only [Vm.G, List.lookup, Nat.reduceAdd, Nat.reduceBEq, Int.reduceBNe, Int.reduceBEq, Nat.reduceLeDiff, q80]
  refine call_one (S := vputSpec) rfl _ (.cons (.refl _) (.cons (.refl _) (.cons (.nil 1) .nil))) ⟨V, f, objK n, [], rfl, hV1, fun _ h2 g1 g2 => ?_, fun hc => ?_⟩
  · simp -dsimp only [Vm.G, List.lookup, Nat.reduceAdd, Nat.reduceBEq, Int.reduceBNe, Int.reduceBEq, Nat.reduceLeDiff, q80]
    exact hq h2 g1 ((Same.wide hs1).trans g2)
  · have : rightKV (objK n) [] = true := by
      have hl : (objK n).length = 5 := key1_length 79 n
      simp [rightKV, hl]
    rw [this] at hc; cases hc
def cObjsSpec : Vm.Spec := fun args h Q => ∃ (V : VId) (f : Fun), args = [.ptr V.iv 0] ∧ isView h V f ∧ f.n ≤ 536870912 ∧ (∀ l, ScanIs f [79] l → allF l = [5010]) ∧
  ∀ (l : List Int) h', l.length = 5 → Q (.sl 1 (l.map encI)) h'
set_option maxRecDepth 20000 in
theorem does_cObjs : Does Tryz.prog 83 cObjsSpec := by
  refine does_of_awp (good_cons does_cOwn (good_cons does_delInts (good_cons does_sortI (good_cons does_compactI good_nil)))) Tryz.func83 rfl (by decide +kernel) (by decide +kernel) ?_
  rintro args h Q ⟨V, f, rfl, hV, hn, hem, hq⟩
  refine ⟨by simp [Tryz.f83], ?_⟩
  rw [awpFunc_some (by rfl)]
  simp -dsimp only [Vm.G, List.lookup, Nat.reduceAdd, Nat.reduceBEq, Int.reduceBNe, Int.reduceBEq, Nat.reduceLeDiff, q83]
  refine call_one (S := cOwnSpec) rfl _ GaL.rfl ⟨V, f, rfl, hV, hn, fun l hl x hx => ?_, fun l h1 hsc hln hV1 hs1 => ?_⟩
  · rw [hem l hl] at hx
    rw [List.mem_singleton] at hx
    subst hx; decide
  · rw [hem l hsc]
    simp -dsimp only [Vm.G, List.lookup, Nat.reduceAdd, Nat.reduceBEq, Int.reduceBNe, Int.reduceBEq, Nat.reduceLeDiff, q83]
    refine bs_intro zr3 (by decide) (by decide) rfl rfl (by simp [solid, AV.cells]) ?_
    simp -dsimp only [Vm.G, List.lookup, Nat.reduceAdd, Nat.reduceBEq, Int.reduceBNe, Int.reduceBEq, Nat.reduceLeDiff, q83]
    refine app_sl Tryz.underlying28 (by simp [AV.cells]) (by simp) ?_
    simp -dsimp only [Vm.G, List.lookup, Nat.reduceAdd, Nat.reduceBEq, Int.reduceBNe, Int.reduceBEq, Nat.reduceLeDiff, q83]
    refine call_in _ _ _ ?_
    simp -dsimp only [Vm.G, List.lookup, Nat.reduceAdd, Nat.reduceBEq, Int.reduceBNe, Int.reduceBEq, Nat.reduceLeDiff, q83, callI_eq, ownSl_own, ownSl_alias, encI]
    refine callI_ret (S := orS (delISpec keepT) delINil) (xs' := ([5010, 1010, 1900, 2900, 3000] : List Int).map encI) rfl (fun x hx => hx) (fun hx => by cases hx)
      (fun c hc Q' hq' => .inl ⟨162, outP, [5010, 1010, 1900, 2900, 3000], h1.length, c, 3, c * 1, rfl, rfl, heap_last _ _, by simp, by decide, hq' _ rfl⟩) ?_
    generalize hL : ([5010, 1010, 1900, 2900, 3000] : List Int) = L
    have hLn : L.Nodup := by rw [← hL]; decide
    have hLl : L.length = 5 := by rw [← hL]; rfl
    simp -dsimp only [Vm.G, List.lookup, Nat.reduceAdd, Nat.reduceBEq, Int.reduceBNe, Int.reduceBEq, Nat.reduceLeDiff, q83]
    refine call_in _ _ _ ?_
    simp -dsimp only [Vm.G, List.lookup, Nat.reduceAdd, Nat.reduceBEq, Int.reduceBNe, Int.reduceBEq, Nat.reduceLeDiff, q83, callI_eq, ownSl_own, ownSl_alias]
    refine callI_tup (S := orS (sortVSpec (Value.int .i64) fun l => l.Pairwise (· ≤ ·)) sortVNil) (fun xs' => ∃ l' : List Int, xs' = l'.map encI ∧ l'.Perm L ∧ l'.Pairwise (· ≤ ·)) rfl
      (fun xs' hx => ?_) (fun hx => ⟨?_, fun Q' hq' => .inr ⟨rfl, hq'⟩⟩) (fun c hc Q' hq' => .inl ⟨L, _, c, 3, by rw [List.length_map], rfl, by omega, by rw [List.length_map] at hc; exact hc, fun l' hp hs => hq' (l'.map encI) _ ⟨l', rfl, hp, hs⟩ ?_⟩) (fun xs' hx => ?_)
    · obtain ⟨l', rfl, hp, -⟩ := hx
      exact ⟨fun x hx => (hp.map _).mem_iff.1 hx, by rw [List.length_map, List.length_map, hp.length_eq]⟩
    · rw [List.map_eq_nil_iff] at hx
      rw [hx] at hLl; simp at hLl
    · show List.take _ (flat (l'.map encI)) = flat (l'.map encI)
      rw [List.take_of_length_le]
      rw [flat_ints, List.length_map, Nat.mul_one]
      exact Nat.le_refl _
    · obtain ⟨l', rfl, hp, hs⟩ := hx
      have hll : l'.length = 5 := by rw [hp.length_eq, hLl]
      have hst : l'.Pairwise (· < ·) := (List.pairwise_and_iff.2 ⟨hs, (hp.nodup_iff.2 hLn)⟩).imp fun {a b} ⟨h1, h2⟩ => by
        have : a ≠ b := h2
        omega
      simp -dsimp only [Vm.G, List.lookup, Nat.reduceAdd, Nat.reduceBEq, Int.reduceBNe, Int.reduceBEq, Nat.reduceLeDiff, q83]
      refine call_one (S := compactISpec) rfl _ GaL.rfl ⟨l', by omega, hst, rfl, ?_⟩
      simp -dsimp only [Vm.G, List.lookup, Nat.reduceAdd, Nat.reduceBEq, Int.reduceBNe, Int.reduceBEq, Nat.reduceLeDiff, q83]
      exact hq l' _ hll
def cfA : Fun := upd noF (fundK 100) (some [103, 101, 110, 101, 114, 97, 108])
def cfB : Fun := upd cfA (objK 5010) (some [])
theorem cf_new : newFund noF 100 [103, 101, 110, 101, 114, 97, 108] = (cfA, 0) := by
  unfold newFund
  rw [if_pos ⟨by decide, by decide⟩, if_neg (by intro h; exact h rfl), if_neg ?_]
  · rfl
  · rintro ⟨l, hl, hn⟩
    have : l = [] := by
      cases l with
      | nil => rfl
      | cons p r => have := ((hl.2 p.1 p.2).1 (List.mem_cons_self ..)).1; cases this
    subst this
    simp at hn
theorem cf_two : newFund cfA 100 [120] = (cfA, 8) := by
  unfold newFund
  rw [if_pos ⟨by decide, by decide⟩, if_pos]
  unfold cfA
  rw [upd_app, if_pos rfl]
  simp
theorem cfA_objs {l : List KV} (h : ScanIs cfA [79] l) : allF l = [] := by
  cases l with
  | nil => rfl
  | cons p r =>
    obtain ⟨h1, h2⟩ := (h.2 p.1 p.2).1 (List.mem_cons_self ..)
    unfold cfA at h1
    rw [upd_app] at h1
    split at h1
    · rename_i e
      rw [e] at h2
      have : ([79] : List UInt8).isPrefixOf (fundK 100) = false := rfl
      rw [this] at h2; cases h2
    · cases h1
theorem cfB_scan : ScanIs cfB [79] [(objK 5010, [])] := by
  refine ⟨List.pairwise_singleton .., fun k v => ⟨fun h => ?_, fun ⟨h1, h2⟩ => ?_⟩⟩
  · rw [List.mem_singleton] at h
    cases h
    refine ⟨?_, rfl⟩
    unfold cfB
    rw [upd_app, if_pos rfl]
  · unfold cfB at h1
    rw [upd_app] at h1
    split at h1
    · rename_i e
      subst e
      cases h1
      exact List.mem_singleton.2 rfl
    · unfold cfA at h1
      rw [upd_app] at h1
      split at h1
      · rename_i e
        rw [e] at h2
        have : ([79] : List UInt8).isPrefixOf (fundK 100) = false := rfl
        rw [this] at h2; cases h2
      · cases h1
theorem cfB_objs {l : List KV} (h : ScanIs cfB [79] l) : allF l = [5010] := by
  rw [h.same cfB_scan]
  decide +kernel
theorem cfB_fund : cfB (fundK 100) = some [103, 101, 110, 101, 114, 97, 108] := by decide +kernel
set_option maxRecDepth 20000 in
set_option maxHeartbeats 2000000 in
theorem does_law21awake : Does Tryz.prog 12 trueSpec := by
  refine does_of_awp (good_cons does_vnewA (good_cons does_cNew (good_cons does_cNewObj (good_cons does_cFund (good_cons does_cObj (good_cons does_cObjs good_nil)))))) Tryz.func12 rfl (by decide +kernel) (by decide +kernel) ?_
  rintro args h Q ⟨rfl, hq⟩
  refine ⟨by simp [Tryz.f12], ?_⟩
  rw [awpFunc_some (by rfl)]
  simp -dsimp only [Vm.G, List.lookup, Nat.reduceAdd, Nat.reduceBEq, Int.reduceBNe, Int.reduceBEq, Nat.reduceLeDiff, q12]
  refine call_one (S := vnewASpec) rfl _ GaL.rfl ⟨rfl, fun V h0 hV => ?_⟩
  simp -dsimp only [Vm.G, List.lookup, Nat.reduceAdd, Nat.reduceBEq, Int.reduceBNe, Int.reduceBEq, Nat.reduceLeDiff, q12]
  refine nil_pointer Tryz.underlying24 ?_
  simp -dsimp only [Vm.G, List.lookup, Nat.reduceAdd, Nat.reduceBEq, Int.reduceBNe, Int.reduceBEq, Nat.reduceLeDiff, q12]
  refine call_one (S := cNewSpec) rfl _ GaL.rfl ⟨V, noF, 100, [103, 101, 110, 101, 114, 97, 108], by simp, rfl, hV, by decide, fun h1 hV1 _ => ?_⟩
  rw [cf_new] at hV1 ⊢
  simp only at hV1 ⊢
  simp -dsimp only [Vm.G, List.lookup, Nat.reduceAdd, Nat.reduceBEq, Int.reduceBNe, Int.reduceBEq, Nat.reduceLeDiff, q12, bne_self_eq_false]
  refine call_one (S := cNewSpec) rfl _ GaL.rfl ⟨V, cfA, 100, [120], by simp, rfl, hV1, by decide, fun h2 hV2 _ => ?_⟩
  rw [cf_two] at hV2 ⊢
  simp only at hV2 ⊢
  simp -dsimp only [Vm.G, List.lookup, Nat.reduceAdd, Nat.reduceBEq, Int.reduceBNe, Int.reduceBEq, Nat.reduceLeDiff, q12, bne_self_eq_false]
  refine call_one (S := cNewObjSpec) rfl _ GaL.rfl ⟨V, cfA, 5010, rfl, hV2, by decide, by decide, by decide +kernel, fun l hl => cfA_objs hl, fun h3 hV3 _ => ?_⟩
  have hV3 : isView h3 V cfB := hV3
  simp -dsimp only [Vm.G, List.lookup, Nat.reduceAdd, Nat.reduceBEq, Int.reduceBNe, Int.reduceBEq, Nat.reduceLeDiff, q12, bne_self_eq_false]
  refine call_one (S := cFundSpec) rfl _ GaL.rfl ⟨V, cfB, 100, rfl, hV3, fun s hs => ?_, fun hn => by rw [cfB_fund] at hn; cases hn⟩
  rw [cfB_fund] at hs
  cases hs
  have k1 : objOk cfB 5010 = true := by decide +kernel
  have k2 : objOk cfB 1010 = true := by decide +kernel
  have k5 : (((5 : Nat) : Int) == 5) = true := rfl
  simp -dsimp only [Vm.G, List.lookup, Nat.reduceAdd, Nat.reduceBEq, Int.reduceBNe, Int.reduceBEq, Nat.reduceLeDiff, q12, str_eql, decide_true, beq_self_eq_true]
  refine call_one (S := cObjSpec) rfl _ GaL.rfl ⟨V, cfB, 5010, rfl, hV3, ?_⟩
  rw [k1]
  simp -dsimp only [Vm.G, List.lookup, Nat.reduceAdd, Nat.reduceBEq, Int.reduceBNe, Int.reduceBEq, Nat.reduceLeDiff, q12]
  refine call_one (S := cObjSpec) rfl _ GaL.rfl ⟨V, cfB, 1010, rfl, hV3, ?_⟩
  rw [k2]
  simp -dsimp only [Vm.G, List.lookup, Nat.reduceAdd, Nat.reduceBEq, Int.reduceBNe, Int.reduceBEq, Nat.reduceLeDiff, q12]
  refine call_one (S := cObjsSpec) rfl _ GaL.rfl ⟨V, cfB, rfl, hV3, by decide, fun l hl => cfB_objs hl, fun l h4 hl5 => ?_⟩
  simp -dsimp only [Vm.G, List.lookup, Nat.reduceAdd, Nat.reduceBEq, Int.reduceBNe, Int.reduceBEq, Nat.reduceLeDiff, q12, hl5, k5]
  exact hq _
end Go.Proofs.Lx
/- The law ChartOnce. -/
set_option linter.unusedSimpArgs false
set_option linter.unusedVariables false
namespace Go.Proofs.Lx
open Go.Vm
attribute [local irreducible] awpArr awpBin awpMake awpAppend awpCvX awpStrOf awpBinX awpSlice awpBS awpStore awpAlloc awpCopy awpIndex awpDraw awpIdxX awpFa awpField awpLookup awpUpdate awpDelete awpClear awpRange awpNext awpEntry awpBuild awpClearS awpIdxL awpTree appB awpIdxO eltA treeA
def encW (n : Int) : AV := .v (.int .u16 n)
def lower (i : Nat) : UInt8 := UInt8.ofNat (97 + i % 26)
theorem lower_nat (i : Nat) : (lower i).toNat = 97 + i % 26 := by
  unfold lower
  rw [UInt8.toNat_ofNat']
  omega
theorem lower_all : ∀ k, k < 26 → nameOk [UInt8.ofNat (97 + k)] = true := by decide +kernel
theorem lower_ok (i : Nat) : nameOk [lower i] = true := lower_all (i % 26) (by omega)
def onceSpec : Vm.Spec := fun args h Q => ∃ l : List Int, l.length ≤ 9223372036854775807 ∧ (∀ x ∈ l, 0 ≤ x ∧ x ≤ 65535) ∧ args = [.sl 1 (l.map encW)] ∧ ∀ h', Q (.v (.bool true)) h'
set_option maxRecDepth 20000 in
set_option maxHeartbeats 4000000 in
theorem does_once : Does Tryz.prog 3 onceSpec := by
  refine does_of_awp (good_cons does_law21awake (good_cons does_vnewA (good_cons does_cFunds (good_cons does_hasInt (good_cons does_cNew (good_cons does_sortedI (good_cons does_compactI good_nil))))))) Tryz.func3 rfl (by decide +kernel) (by decide +kernel) ?_
  rintro args h Q ⟨l, hl, hlr, rfl, hq⟩
  refine ⟨by simp [Tryz.f3], ?_⟩
  rw [awpFunc_some (by rfl)]
  simp -dsimp only [Vm.G, List.lookup, Nat.reduceAdd, Nat.reduceBEq, Int.reduceBNe, Int.reduceBEq, Nat.reduceLeDiff, q3]
  have h0 := Bool.eq_false_or_eq_true (decide ((l.length : Int) > 120))
  rcases h0 with c | c
  · simp -dsimp only [Vm.G, List.lookup, Nat.reduceAdd, Nat.reduceBEq, Int.reduceBNe, Int.reduceBEq, Nat.reduceLeDiff, q3, c]
    refine call_one (S := trueSpec) rfl _ GaL.rfl ⟨rfl, fun hz => ?_⟩
    simp -dsimp only [Vm.G, List.lookup, Nat.reduceAdd, Nat.reduceBEq, Int.reduceBNe, Int.reduceBEq, Nat.reduceLeDiff, q3]
    exact hq _
  · have d0 := of_decide_eq_false c
    simp -dsimp only [Vm.G, List.lookup, Nat.reduceAdd, Nat.reduceBEq, Int.reduceBNe, Int.reduceBEq, Nat.reduceLeDiff, q3, c]
    refine call_one (S := vnewASpec) rfl _ GaL.rfl ⟨rfl, fun V h0 hV => ?_⟩
    simp -dsimp only [Vm.G, List.lookup, Nat.reduceAdd, Nat.reduceBEq, Int.reduceBNe, Int.reduceBEq, Nat.reduceLeDiff, q3]
    refine awp_loop (fun m s h' => ∃ (i : Nat) (f : Fun), i + m = l.length ∧ isView h' V f ∧ GoodC f ∧ f.n ≤ i ∧ (∀ kv, ScanIs f [70] kv → (allF kv).length ≤ 40) ∧ s = mk [(3, .ptr V.iv 0), (16, .sl 1 (l.map encW)), (17, .v (.int .i64 l.length)), (18, .v (.int .i64 (i : Nat)))])
      l.length _ (le_mk _ ?_) ⟨0, noF, by omega, hV, good_c0, Nat.le_refl _, fun kv hk => ?_, rfl⟩ ?_
    · simp only [List.forall_mem_cons, List.not_mem_nil, false_imp_iff, implies_true, and_true]
      try simp -dsimp only [Vm.G, List.lookup, Nat.reduceAdd, Nat.reduceBEq, Int.reduceBNe, Int.reduceBEq, Nat.reduceLeDiff, q3]
      repeat' first | exact Fg.refl _ | exact Fg.nil _ _ _ (by decide) | refine And.intro ?_ ?_
    · cases kv with
      | nil => simp
      | cons p r => have := ((hk.2 p.1 p.2).1 (List.mem_cons_self ..)).1; cases this
    · clear hV
      rintro m s h' ⟨i, f, hi, hV, hg, hfn, h40, rfl⟩
      simp -dsimp only [Vm.G, List.lookup, Nat.reduceAdd, Nat.reduceBEq, Int.reduceBNe, Int.reduceBEq, Nat.reduceLeDiff, q3]
      refine cond_intro (fun hcc => ?_) (fun hcc => ?_)
      · have hlt : i < l.length := by have := of_decide_eq_true hcc; omega
        have hw : IntKind.i64.wrap ((i : Int) + 1) = ((i + 1 : Nat) : Int) := by rw [wrap_i64 (by omega) (by omega)]; simp
        have hxr := hlr l[i] (List.getElem_mem hlt)
        simp -dsimp only [Vm.G, List.lookup, Nat.reduceAdd, Nat.reduceBEq, Int.reduceBNe, Int.reduceBEq, Nat.reduceLeDiff, q3]
        refine idx_map encW l i hlt ?_
        generalize l[i] = x at hxr
        have hre : ∃ r : Nat, x.tmod 900 = (r : Int) ∧ r < 900 := ⟨(x % 900).toNat, by rw [Int.tmod_eq_emod_of_nonneg (by omega)]; omega, by omega⟩
        rcases hre with ⟨r, hr, hr9⟩
        have w2 : IntKind.i64.wrap (r : Int) = (r : Int) := wrap_i64 (by omega) (by omega)
        have w3 : IntKind.i64.wrap (100 + (r : Int)) = 100 + (r : Int) := wrap_i64 (by omega) (by omega)
        simp only [encW]
        simp -dsimp only [Vm.G, List.lookup, Nat.reduceAdd, Nat.reduceBEq, Int.reduceBNe, Int.reduceBEq, Nat.reduceLeDiff, q3]
        refine rem_intro (by decide) ?_
        simp -dsimp only [Vm.G, List.lookup, Nat.reduceAdd, Nat.reduceBEq, Int.reduceBNe, Int.reduceBEq, Nat.reduceLeDiff, q3, hr, w2, w3]
        have hne : ∃ n, n = 100 + (r : Int) := ⟨_, rfl⟩
        rcases hne with ⟨n, hn⟩
        rw [← hn]
        have hnr : FundR n := by omega
        clear hn w2 w3 hr hr9
        refine call_one (S := cFundsSpec) rfl _ GaL.rfl ⟨V, f, rfl, hV, by omega, fun kv h1 hsc hkl hV1 hs1 => ?_⟩
        have ha := newFund_ans hg hsc hnr (lower_ok i)
        have hg2 := newFund_good (s := [lower i]) hg hnr
        have h402 := fun kv2 hk2 => newFund_few (l' := kv2) hg hsc hnr (lower_ok i) (h40 kv hsc) hk2
        have hfn2 := newFund_n f n [lower i]
        have hal : (allF kv).length ≤ kv.length := List.length_filterMap_le ..
        simp -dsimp only [Vm.G, List.lookup, Nat.reduceAdd, Nat.reduceBEq, Int.reduceBNe, Int.reduceBEq, Nat.reduceLeDiff, q3]
        refine call_one (S := hasIntSpec) rfl _ GaL.rfl ⟨allF kv, n, by omega, rfl, ?_⟩
        simp -dsimp only [Vm.G, List.lookup, Nat.reduceAdd, Nat.reduceBEq, Int.reduceBNe, Int.reduceBEq, Nat.reduceLeDiff, q3]
        refine call_one (S := cFundsSpec) rfl _ GaL.rfl ⟨V, f, rfl, hV1, by omega, fun kv2 h2 hsc2 hkl2 hV2 hs2 => ?_⟩
        rw [hsc2.same hsc]
        generalize allF kv = A at ha hal ⊢
        have hln := lower_nat i
        have ht : (i : Int).tmod 26 = ((i % 26 : Nat) : Int) := by rw [Int.tmod_eq_emod_of_nonneg (by omega)]; omega
        have v1 : IntKind.i64.wrap (97 + ((i % 26 : Nat) : Int)) = 97 + ((i % 26 : Nat) : Int) := wrap_i64 (by omega) (by omega)
        have v2 : IntKind.u8.wrap (97 + ((i % 26 : Nat) : Int)) = ((lower i).toNat : Int) := by rw [hln, wrap_u8 (by omega) (by omega)]; omega
        simp -dsimp only [Vm.G, List.lookup, Nat.reduceAdd, Nat.reduceBEq, Int.reduceBNe, Int.reduceBEq, Nat.reduceLeDiff, q3]
        refine rem_intro (by decide) ?_
        simp -dsimp only [Vm.G, List.lookup, Nat.reduceAdd, Nat.reduceBEq, Int.reduceBNe, Int.reduceBEq, Nat.reduceLeDiff, q3, ht, v1, v2]
        refine bs_intro zr5 (by decide) (by decide) rfl rfl (by simp [solid, AV.cells]) ?_
        simp -dsimp only [Vm.G, List.lookup, Nat.reduceAdd, Nat.reduceBEq, Int.reduceBNe, Int.reduceBEq, Nat.reduceLeDiff, q3]
        refine strOf_sl bt32 [lower i] rfl ?_
        simp -dsimp only [Vm.G, List.lookup, Nat.reduceAdd, Nat.reduceBEq, Int.reduceBNe, Int.reduceBEq, Nat.reduceLeDiff, q3]
        refine call_one (S := cNewSpec) rfl _ GaL.rfl ⟨V, f, n, [lower i], by simp, rfl, hV2, by omega, fun h3 hV3 _ => ?_⟩
        generalize newFund f n [lower i] = q at hV3 ha hg2 h402 hfn2 ⊢
        rcases q with ⟨f2, qe⟩
        simp only at hV3 ha hg2 h402 hfn2 ⊢
        have hm0 := Bool.eq_false_or_eq_true (decide (n ∈ A))
        have h41 := Bool.eq_false_or_eq_true (decide ((A.length : Int) < 40))
        rcases hm0 with cm | cm
        · rw [if_pos (of_decide_eq_true cm)] at ha
          subst ha
          simp -dsimp only [Vm.G, List.lookup, Nat.reduceAdd, Nat.reduceBEq, Int.reduceBNe, Int.reduceBEq, Nat.reduceLeDiff, q3, cm, bne_self_eq_false]
          refine kept_intro ⟨l.length - (i + 1), by omega, _, le_mk [(3, .ptr V.iv 0), (16, .sl 1 (l.map encW)), (17, .v (.int .i64 l.length)), (18, .v (.int .i64 (i + 1 : Nat)))] ?_, i + 1, f2, by omega, hV3, hg2, by omega, h402, rfl⟩
          simp only [List.forall_mem_cons, List.not_mem_nil, false_imp_iff, implies_true, and_true, hw]
          try simp -dsimp only [Vm.G, List.lookup, Nat.reduceAdd, Nat.reduceBEq, Int.reduceBNe, Int.reduceBEq, Nat.reduceLeDiff, q3, hw]
          repeat' first | exact Fg.refl _ | exact Fg.nil _ _ _ (by decide) | refine And.intro ?_ ?_
        · rw [if_neg (of_decide_eq_false cm)] at ha
          rcases h41 with c4 | c4
          · have d4 := of_decide_eq_true c4
            have c5 : decide ((A.length : Int) ≥ 40) = false := decide_eq_false (by omega)
            rw [if_neg (by omega)] at ha
            subst ha
            simp -dsimp only [Vm.G, List.lookup, Nat.reduceAdd, Nat.reduceBEq, Int.reduceBNe, Int.reduceBEq, Nat.reduceLeDiff, q3, cm, c4, c5, bne_self_eq_false]
            refine kept_intro ⟨l.length - (i + 1), by omega, _, le_mk [(3, .ptr V.iv 0), (16, .sl 1 (l.map encW)), (17, .v (.int .i64 l.length)), (18, .v (.int .i64 (i + 1 : Nat)))] ?_, i + 1, f2, by omega, hV3, hg2, by omega, h402, rfl⟩
            simp only [List.forall_mem_cons, List.not_mem_nil, false_imp_iff, implies_true, and_true, hw]
            try simp -dsimp only [Vm.G, List.lookup, Nat.reduceAdd, Nat.reduceBEq, Int.reduceBNe, Int.reduceBEq, Nat.reduceLeDiff, q3, hw]
            repeat' first | exact Fg.refl _ | exact Fg.nil _ _ _ (by decide) | refine And.intro ?_ ?_
          · have d4 := of_decide_eq_false c4
            have c5 : decide ((A.length : Int) ≥ 40) = true := decide_eq_true (by omega)
            rw [if_pos (by omega)] at ha
            subst ha
            simp -dsimp only [Vm.G, List.lookup, Nat.reduceAdd, Nat.reduceBEq, Int.reduceBNe, Int.reduceBEq, Nat.reduceLeDiff, q3, cm, c4, c5, bne_self_eq_false]
            refine kept_intro ⟨l.length - (i + 1), by omega, _, le_mk [(3, .ptr V.iv 0), (16, .sl 1 (l.map encW)), (17, .v (.int .i64 l.length)), (18, .v (.int .i64 (i + 1 : Nat)))] ?_, i + 1, f2, by omega, hV3, hg2, by omega, h402, rfl⟩
            simp only [List.forall_mem_cons, List.not_mem_nil, false_imp_iff, implies_true, and_true, hw]
            try simp -dsimp only [Vm.G, List.lookup, Nat.reduceAdd, Nat.reduceBEq, Int.reduceBNe, Int.reduceBEq, Nat.reduceLeDiff, q3, hw]
            repeat' first | exact Fg.refl _ | exact Fg.nil _ _ _ (by decide) | refine And.intro ?_ ?_
      · have hge : ¬ i < l.length := by have := of_decide_eq_false hcc; omega
        clear hcc
        simp -dsimp only [Vm.G, List.lookup, Nat.reduceAdd, Nat.reduceBEq, Int.reduceBNe, Int.reduceBEq, Nat.reduceLeDiff, q3]
        refine call_one (S := cFundsSpec) rfl _ GaL.rfl ⟨V, f, rfl, hV, by omega, fun kv h1 hsc hkl hV1 hs1 => ?_⟩
        have hri := funds_rise hg hsc
        have h4 := h40 kv hsc
        have c4 : decide (((allF kv).length : Int) ≤ 40) = true := decide_eq_true (by omega)
        simp -dsimp only [Vm.G, List.lookup, Nat.reduceAdd, Nat.reduceBEq, Int.reduceBNe, Int.reduceBEq, Nat.reduceLeDiff, q3, c4]
        refine call_one (S := sortedISpec) rfl _ GaL.rfl ⟨allF kv, by omega, hri, rfl, ?_⟩
        simp -dsimp only [Vm.G, List.lookup, Nat.reduceAdd, Nat.reduceBEq, Int.reduceBNe, Int.reduceBEq, Nat.reduceLeDiff, q3]
        refine call_one (S := compactISpec) rfl _ GaL.rfl ⟨allF kv, by omega, hri, rfl, ?_⟩
        simp -dsimp only [Vm.G, List.lookup, Nat.reduceAdd, Nat.reduceBEq, Int.reduceBNe, Int.reduceBEq, Nat.reduceLeDiff, q3]
        refine call_one (S := cFundsSpec) rfl _ GaL.rfl ⟨V, f, rfl, hV1, by omega, fun kv2 h2 hsc2 hkl2 hV2 hs2 => ?_⟩
        rw [hsc2.same hsc]
        simp -dsimp only [Vm.G, List.lookup, Nat.reduceAdd, Nat.reduceBEq, Int.reduceBNe, Int.reduceBEq, Nat.reduceLeDiff, q3, beq_self_eq_true]
        refine call_one (S := trueSpec) rfl _ GaL.rfl ⟨rfl, fun hz => ?_⟩
        simp -dsimp only [Vm.G, List.lookup, Nat.reduceAdd, Nat.reduceBEq, Int.reduceBNe, Int.reduceBEq, Nat.reduceLeDiff, q3]
        exact hq _
theorem once_args {y0 : AV} (i0 : IsA (.sl (.int .u16)) y0) {Q : AV → Heap → Prop} (hq : ∀ h', Q (.v (.bool true)) h') : onceSpec [y0] [] Q := by
  obtain ⟨l, hl, rfl, hr⟩ := isA_list (fun n => 0 ≤ n ∧ n ≤ 65535) encW (fun y hy => by obtain ⟨n, h0, h1, rfl⟩ := isA_u16 hy; exact ⟨n, ⟨h0, h1⟩, rfl⟩) i0
  exact ⟨l, hl, hr, rfl, hq⟩
end Go.Proofs.Lx
