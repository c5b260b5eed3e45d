/- Variables of the call's own, and objects: how they come to be, how they are written. -/
import Derived.Test.YthfbpdipilajoaaGreatDoorVmK
set_option linter.unusedVariables false
set_option linter.unusedSimpArgs false
namespace Go.Vm
open Go.RowKit

variable {P : Program} {H : Hst} {w0 w w' : World} {g0 g g' : Gh} {s : Slots} {h : Heap} {a : Act} {o : Oper} {K : AV → Slots → Heap → Prop} {Q : Exit → Act → World → Prop}

theorem new_box (r : R H w0 g0 s h g a w) {cs : List AV} {v : Value} {e : TypeId} (hc : v.cells.size = cs.length) (h1 : ∀ u ∈ v.cells.toList, u.oneCell' = true)
    (hr : ∀ j u, cs[j]? = some u → Rep w g u (v.cells.toList.getD j undef)) :
    slotRep (w.alloc (.cells v.cells e)) g w0.heap.size (tmOf a) (.box cs) (.pointer (some ⟨w.heap.size, 0, none⟩)) := by
  refine ⟨w.heap.size, rfl, r.frame.size, v.cells, e, heap_alloc_new w _, by omega, r.fresh _ (Nat.le_refl _), fun j hj => ?_, fun j u hu => ?_⟩
  · refine h1 _ ?_
    simp [Array.getD, show j < v.cells.size by omega]
  · have := (hr j u hu).keep (keeps_alloc r (.cells v.cells e))
    simpa [Array.getD_eq_getD_getElem?, List.getD_eq_getElem?_getD] using this

theorem sound_newBox {N : Nat} {x : AV} {v : Value} {e : TypeId} (r : R H w0 g0 s h g a w) (hN : a.tmps.size = N) (hd : ∀ d, o.dst = some d → d < N)
    (hrun : (execOp a.eval o).run P w = .ok (.value (.pointer (some ⟨w.heap.size, 0, none⟩))) (w.alloc (.cells v.cells e)))
    {cs : List AV} (hc : v.cells.size = cs.length) (h1 : ∀ u ∈ v.cells.toList, u.oneCell' = true)
    (hr : ∀ j u, cs[j]? = some u → Rep w g u (v.cells.toList.getD j undef)) (hK : K (.box cs) s h) : o.wp P a w (Aft N H w0 g0 o K) Q := by
  refine aft_world (r.alloc _) hN hd hrun (new_box r hc h1 hr) (fun b hb => ?_) hK
  simp only [privB, Option.some.injEq] at hb
  subst hb
  exact r.sep_new

theorem sound_box {N : Nat} {t : TypeId} {x : Operand} (ho : o.op = .box t x) (r : R H w0 g0 s h g a w) (hN : a.tmps.size = N) (hd : ∀ d, o.dst = some d → d < N)
    (hK : awpBox (frz s x).1 fun v => K v (frz s x).2 h) : o.wp P a w (Aft N H w0 g0 o K) Q := by
  obtain ⟨g1, r1, k1, p1, -⟩ := r.frz x
  obtain ⟨q1, q2, q3⟩ := solid_rep hK.1 p1
  exact sound_newBox (x := .any) (v := a.eval x) (e := t) r1 hN hd (by simp only [execOp, ho, Instr.box, newVar, newRow, newObj, Sem.run_bind]; rfl) q1 q2 q3 hK.2

theorem sound_alloc {N : Nat} {t : TypeId} (ho : o.op = .alloc t) (r : R H w0 g0 s h g a w) (hN : a.tmps.size = N) (hd : ∀ d, o.dst = some d → d < N)
    (hK : awpAlloc ((P.info? t).bind (·.zero)) fun v => K v s h) : o.wp P a w (Aft N H w0 g0 o K) Q := by
  unfold awpAlloc at hK
  split at hK
  · rename_i z hz
    obtain ⟨hp, hK⟩ := hK
    obtain ⟨c1, c2⟩ := cst_cells hp
    have hinf : ∃ i, P.info? t = some i ∧ i.zero = some z := by
      cases hi : P.info? t with
      | none => rw [hi] at hz; cases hz
      | some i => rw [hi] at hz; exact ⟨i, rfl, hz⟩
    obtain ⟨i, hi, hiz⟩ := hinf
    have hzr : (zeroValue t).run P w = .ok z w := by simp [zeroValue, typeInfo, hi, hiz]
    refine sound_newBox (x := .any) (v := z) (e := t) r hN hd (by simp only [execOp, ho, Instr.alloc, newVar, newRow, newObj, Sem.run_bind, hzr, Result.andThen_ok]; rfl) (by rw [c1]; simp) (fun u hu => plain_oneCell (c2 u hu)) (fun j u hu => ?_) hK
    rw [c1, List.getElem?_map] at hu
    cases hj : z.cells.toList[j]? with
    | none => rw [hj] at hu; cases hu
    | some y =>
      rw [hj] at hu
      simp only [Option.map_some, Option.some.injEq] at hu
      subst hu
      rw [List.getD_eq_getElem?_getD, hj]
      exact .v (c2 y (List.mem_of_getElem? hj))
  · exact hK.elim

theorem keeps_setRow {b e : Nat} {cur cur' : Array Value} {fr : Nat × Nat} (hp : g.pub b = 0) : Keeps w g (w.setRow b cur') g :=
  ⟨fun _ => Nat.le_refl _, fun k j v hj hv => by
    by_cases hb : k = b
    · subst hb; omega
    · rw [World.cell?_of_block (a := ⟨k, j, none⟩) (setRow_other w b k cur' hb)]; exact hv, Nat.le_refl _, fun _ _ => rfl⟩

/-- Cells of a row are written. -/
theorem row_putL {cs : List AV} {b off : Nat} {xs : List AV} {us : List Value} (hrow : RowAt w g cs b) (q1 : us.length = xs.length) (q2 : ∀ u ∈ us, u.oneCell' = true) (q3 : ∀ j u, xs[j]? = some u → Rep w g u (us.getD j undef)) (hfit : off + xs.length ≤ cs.length) :
    ∃ cur', (storeCells ⟨b, off, none⟩ us 0).run P w = .ok () (w.setRow b cur') ∧ RowAt (w.setRow b cur') g (putCells cs off xs) b ∧ Keeps w g (w.setRow b cur') g ∧
      ∀ vs e, w.heap[b]? = some (.cells vs e (0, 0)) → cur'.size = vs.size ∧ (w.setRow b cur').heap[b]? = some (.cells cur' e (0, 0)) := by
  obtain ⟨vs, e, hb, hl, hpub, h1, hrep⟩ := hrow
  have hk : Keeps w g (w.setRow b (vs.toList.take off ++ us ++ vs.toList.drop (off + us.length)).toArray) g := keeps_setRow (e := e) (cur := vs) (fr := (0, 0)) hpub
  have hst := run_storeCells_at P b off e us 0 vs w hb (by simp [q1]; omega) q2
  simp only [Nat.add_zero] at hst
  have hvl : us.length = xs.length := q1
  refine ⟨_, hst, ⟨_, e, setRow_heap w b vs _ e _ hb, ?_, hpub, ?_, ?_⟩, hk, fun vs' e' hb' => ?_⟩
  · simp [putCells, q1]; omega
  · intro j hj
    have hpl : (putCells cs off xs).length = cs.length := by simp [putCells]; omega
    rw [hpl] at hj
    have hgd : ∀ (l : List Value), l.toArray.getD j undef = l.getD j undef := fun l => by simp [Array.getD_eq_getD_getElem?, List.getD_eq_getElem?_getD]
    rw [hgd, List.getD_eq_getElem?_getD, List.append_assoc]
    have hvl : us.length = xs.length := q1
    have hvs : vs.toList.length = vs.size := by simp
    have ht : (vs.toList.take off).length = off := by simp only [List.length_take]; omega
    have hold : ∀ k, k < cs.length → (vs.toList[k]?.getD undef).oneCell' = true := fun k hk => by
      have := h1 k hk
      simpa [Array.getD_eq_getD_getElem?] using this
    rcases Nat.lt_or_ge j off with hjo | hjo
    · rw [List.getElem?_append_left (by omega), List.getElem?_take, if_pos hjo]
      exact hold j hj
    · rw [List.getElem?_append_right (by omega), ht]
      rcases Nat.lt_or_ge (j - off) xs.length with hj2 | hj2
      · rw [List.getElem?_append_left (by omega), List.getElem?_eq_getElem (by omega)]
        exact q2 _ (List.getElem_mem _)
      · rw [List.getElem?_append_right (by omega), List.getElem?_drop, hvl]
        rw [show off + xs.length + (j - off - xs.length) = j by omega]
        exact hold j hj
  · intro j u hu
    have hoff : off ≤ vs.toList.length := by simp; omega
    have hgd : ∀ (l : List Value), l.toArray.getD j undef = l.getD j undef := fun l => by simp [Array.getD_eq_getD_getElem?, List.getD_eq_getElem?_getD]
    rw [hgd]
    refine Rep.keep hk ?_
    simp only [putCells] at hu
    rw [List.append_assoc] at hu ⊢
    rw [List.getD_eq_getElem?_getD]
    have ht : (vs.toList.take off).length = off := by simp only [List.length_take]; omega
    have ht' : (cs.take off).length = off := by simp only [List.length_take]; omega
    rcases Nat.lt_or_ge j off with hj | hj
    · rw [List.getElem?_append_left (by omega), List.getElem?_take, if_pos hj] at hu
      rw [List.getElem?_append_left (by omega), List.getElem?_take, if_pos hj]
      have := hrep j u hu
      simpa [Array.getD_eq_getD_getElem?] using this
    · rw [List.getElem?_append_right (by omega), ht'] at hu
      rw [List.getElem?_append_right (by omega), ht]
      rcases Nat.lt_or_ge (j - off) xs.length with hj2 | hj2
      · rw [List.getElem?_append_left hj2] at hu
        rw [List.getElem?_append_left (by omega)]
        simpa [List.getD_eq_getElem?_getD] using q3 _ u hu
      · rw [List.getElem?_append_right hj2, List.getElem?_drop] at hu
        rw [List.getElem?_append_right (by omega), List.getElem?_drop, hvl]
        rw [show off + xs.length + (j - off - xs.length) = j by omega] at hu ⊢
        have := hrep j u hu
        simpa [Array.getD_eq_getD_getElem?] using this
  · rw [hb] at hb'
    cases hb'
    exact ⟨by simp; omega, setRow_heap w b vs _ e _ hb⟩

theorem row_put {cs : List AV} {b off : Nat} {x : AV} {v : Value} (hrow : RowAt w g cs b) (hs : solid x = true) (hr : Rep w g x v) (hfit : off + x.cells.length ≤ cs.length) :
    ∃ cur', (storeCells ⟨b, off, none⟩ v.cells.toList 0).run P w = .ok () (w.setRow b cur') ∧ RowAt (w.setRow b cur') g (putCells cs off x.cells) b ∧ Keeps w g (w.setRow b cur') g := by
  obtain ⟨q1, q2, q3⟩ := solid_rep hs hr
  obtain ⟨cur', c1, c2, c3, -⟩ := row_putL (P := P) (xs := x.cells) (us := v.cells.toList) hrow (by simpa using q1) q2 q3 hfit
  exact ⟨cur', c1, c2, c3⟩

/-- .. of a row whose type and size are known. -/
theorem row_putE {e m : Nat} {cs : List AV} {b off : Nat} {xs : List AV} {us : List Value} (hrow : RowE w g e m cs b) (q1 : us.length = xs.length) (q2 : ∀ u ∈ us, u.oneCell' = true) (q3 : ∀ j u, xs[j]? = some u → Rep w g u (us.getD j undef)) (hfit : off + xs.length ≤ cs.length) :
    ∃ cur', (storeCells ⟨b, off, none⟩ us 0).run P w = .ok () (w.setRow b cur') ∧ RowE (w.setRow b cur') g e m (putCells cs off xs) b ∧ Keeps w g (w.setRow b cur') g := by
  obtain ⟨cur', c1, ⟨vs', e', d1, d2, d3, d4, d5⟩, c3, c4⟩ := row_putL (P := P) hrow.at q1 q2 q3 hfit
  obtain ⟨vs, a1, a2, a3, a4, a5, a6⟩ := hrow
  obtain ⟨k1, k2⟩ := c4 vs e a1
  rw [k2] at d1
  cases d1
  exact ⟨cur', c1, ⟨cur', k2, by omega, by omega, d3, d4, d5⟩, c3⟩

/-- What a slot holds for itself is written. -/
theorem R.setBox (r : R H w0 g0 s h g a w) {k b : Nat} {cs cs' : List AV} {cur' : Array Value} (hs : s k = .box cs) (hv : tmOf a k = .pointer (some ⟨b, 0, none⟩))
    (hrow : RowAt (w.setRow b cur') g cs' b) (hk : Keeps w g (w.setRow b cur') g) : R H w0 g0 (Vm.set s k (.box cs')) h g a (w.setRow b cur') := by
  have hb : privB (s k) (tmOf a k) = some b := by rw [hs, hv]; rfl
  have hlt := priv_lt (r.slots k) hb
  have hsz : (w.setRow b cur').heap.size = w.heap.size := by simp [World.setRow]
  have hpr : ∀ i, privB (Vm.set s k (.box cs') i) (tmOf a i) = privB (s i) (tmOf a i) := fun i => by
    unfold Vm.set
    split
    · rename_i e; subst e; rw [hs, hv]; rfl
    · rfl
  have hoth : ∀ i b', i ≠ k → privB (s i) (tmOf a i) = some b' → b' ≠ b := fun i b' hi hb' e => hi (r.apart i k b' hb' (e ▸ hb))
  refine ⟨r.defers, fun i => ?_, fun i j b' hi hj => r.apart i j b' ((hpr i).symm.trans hi) ((hpr j).symm.trans hj), fun i b' hi => r.sep i b' ((hpr i).symm.trans hi), ?_, ?_, r.n0, r.loc0, r.old, r.loc1, fun b' hb' => r.fresh b' (by rw [hsz] at hb'; exact hb'), fun i cs hi => (r.laid i cs hi).keep hk, r.kept.trans hk⟩
  · by_cases hi : i = k
    · subst hi
      simp only [Vm.set, if_true]
      exact ⟨b, hv, hlt.1, hrow⟩
    · simp only [Vm.set, hi, if_false]
      exact (r.slots i).keepAt hk fun b' hb' => ⟨setRow_other w b b' cur' (hoth i b' hi hb'), rfl⟩
  · exact ⟨r.heap.n, fun i hi => by rw [hsz]; exact r.heap.lt i hi, r.heap.inj, fun i o' ho => (r.heap.obj i o' ho).keepAt hk ⟨setRow_other w b _ cur' (r.sep k b hb i (by
      rw [← r.heap.n]
      rcases Nat.lt_or_ge i h.length with h' | h'
      · exact h'
      · simp [List.getElem?_eq_none h'] at ho)), rfl⟩⟩
  · exact ⟨r.frame.os, r.frame.tape, r.frame.output, by rw [hsz]; exact r.frame.size, fun k' hk' hno => by rw [setRow_other w b k' cur' (by omega)]; exact r.frame.block k' hk' hno⟩

theorem heap_lt {i : Nat} {x : AObj} (r : R H w0 g0 s h g a w) (ho : h[i]? = some x) : i < g.n := by
  rw [← r.heap.n]
  rcases Nat.lt_or_ge i h.length with h' | h'
  · exact h'
  · simp [List.getElem?_eq_none h'] at ho

/-- An object changes. -/
theorem R.setObj (r : R H w0 g0 s h g a w) {i : Nat} {x x' : AObj} (hi : h[i]? = some x) (hk : Keeps w g w' g) (hother : ∀ k, k ≠ g.loc i → w'.heap[k]? = w.heap[k]?) (hsz : w'.heap.size = w.heap.size)
    (hw : w'.os = w.os ∧ w'.tape = w.tape ∧ w'.output = w.output) (hobj : ObjRep w' g x' (g.loc i)) : R H w0 g0 s (h.set i x') g a w' := by
  have hin := heap_lt r hi
  refine ⟨r.defers, fun j => (r.slots j).keepAt hk fun b' hb' => ⟨hother b' fun e => r.sep j b' hb' i hin e.symm, rfl⟩, r.apart, r.sep, ?_, ?_, r.n0, r.loc0, r.old, r.loc1, fun b' hb' => r.fresh b' (by rw [hsz] at hb'; exact hb'), fun i cs hi => (r.laid i cs hi).keep hk, r.kept.trans hk⟩
  · refine ⟨by rw [List.length_set]; exact r.heap.n, fun j hj => by rw [hsz]; exact r.heap.lt j hj, r.heap.inj, fun j o' ho => ?_⟩
    rw [List.getElem?_set] at ho
    split at ho
    · rename_i e
      subst e
      rw [if_pos (by rw [r.heap.n]; exact hin)] at ho
      cases ho
      exact hobj
    · rename_i e
      have hjn := heap_lt r ho
      exact (r.heap.obj j o' ho).keepAt hk ⟨hother _ fun e' => e (r.heap.inj i j hin hjn e'.symm), rfl⟩
  · refine ⟨hw.1.trans r.frame.os, hw.2.1.trans r.frame.tape, hw.2.2.trans r.frame.output, by rw [hsz]; exact r.frame.size, fun k hk' hno => ?_⟩
    rw [hother k fun e => ?_]
    · exact r.frame.block k hk' hno
    · rcases Nat.lt_or_ge i g0.n with h0 | h0
      · exact hno i h0 ((r.loc0 i h0).symm.trans e.symm)
      · have := r.loc1 i hin h0
        omega

/-- A slice of the call's own is written, of which nothing was published. -/
theorem R.setOwn (r : R H w0 g0 s h g a w) {k b e sz : Nat} {m : Bool} {xs xs' : List AV} {cur' : Array Value} (hs : s k = .own m e sz xs) (hb : privB (s k) (tmOf a k) = some b)
    (hrow : OwnRep (w.setRow b cur') g w0.heap.size m e sz xs' (tmOf a k)) (hk : Keeps w g (w.setRow b cur') g) : R H w0 g0 (Vm.set s k (.own m e sz xs')) h g a (w.setRow b cur') := by
  have hlt := priv_lt (r.slots k) hb
  have hsz : (w.setRow b cur').heap.size = w.heap.size := by simp [World.setRow]
  have hpr : ∀ i, privB (Vm.set s k (.own m e sz xs') i) (tmOf a i) = privB (s i) (tmOf a i) := fun i => by
    unfold Vm.set
    split
    · rename_i e; subst e; rw [hs]; rfl
    · rfl
  have hoth : ∀ i b', i ≠ k → privB (s i) (tmOf a i) = some b' → b' ≠ b := fun i b' hi hb' e => hi (r.apart i k b' hb' (e ▸ hb))
  refine ⟨r.defers, fun i => ?_, fun i j b' hi hj => r.apart i j b' ((hpr i).symm.trans hi) ((hpr j).symm.trans hj), fun i b' hi => r.sep i b' ((hpr i).symm.trans hi), ?_, ?_, r.n0, r.loc0, r.old, r.loc1, fun b' hb' => r.fresh b' (by rw [hsz] at hb'; exact hb'), fun i cs hi => (r.laid i cs hi).keep hk, r.kept.trans hk⟩
  · by_cases hi : i = k
    · subst hi
      simp only [Vm.set, if_true]
      exact hrow
    · simp only [Vm.set, hi, if_false]
      exact (r.slots i).keepAt hk fun b' hb' => ⟨setRow_other w b b' cur' (hoth i b' hi hb'), rfl⟩
  · exact ⟨r.heap.n, fun i hi => by rw [hsz]; exact r.heap.lt i hi, r.heap.inj, fun i o' ho => (r.heap.obj i o' ho).keepAt hk ⟨setRow_other w b _ cur' (r.sep k b hb i (heap_lt r ho)), rfl⟩⟩
  · exact ⟨r.frame.os, r.frame.tape, r.frame.output, by rw [hsz]; exact r.frame.size, fun k' hk' hno => by rw [setRow_other w b k' cur' (by omega)]; exact r.frame.block k' hk' hno⟩

theorem run_isStore {t : TypeId} {n : Nat} {b off : Nat} {v : Value} (hn : szT P t = some n) (hv : v.cells.size = n) :
    (Instr.storeAt t (.pointer (some ⟨b, off, none⟩)) v).run P w = (storeCells ⟨b, off, none⟩ v.cells.toList 0).run P w := by
  unfold szT at hn
  cases hi : P.info? t with
  | none => rw [hi] at hn; cases hn
  | some i =>
    rw [hi] at hn
    simp only [Option.map_some, Option.some.injEq] at hn
    simp [Instr.storeAt, Instr.sureAddr, storeVar, sizeOf, typeInfo, hi, hn, hv]

theorem aft_skip {N : Nat} {s' : Slots} {h' : Heap} (r' : R H w0 g0 s' h' g' a w') (hN : a.tmps.size = N) (hd : ∀ d, o.dst = some d → d < N)
    (hrun : (execOp a.eval o).run P w = .ok .skip w') (hK : K .any s' h') : o.wp P a w (Aft N H w0 g0 o K) Q := by
  unfold Oper.wp
  rw [hrun, Oper.upon_skip]
  refine ⟨.any, s', h', g', hK, ?_, by rw [size_put]; exact hN⟩
  cases ho : o.dst with
  | none => exact r'
  | some d => exact r'.put (by rw [hN]; exact hd d ho) (.any _) fun b hb => by cases hb

/-- Cells of an element of a slice of the call's own are written. -/
theorem own_put {B b e sz i off c n : Nat} {xs : List AV} {x : AV} {v tv : Value} (hown : OwnRep w g B true e sz xs tv) (htv : tv = .slice (some ⟨b, 0, none⟩) n c) (hs : solid x = true) (hr : Rep w g x v)
    (hfit : off + x.cells.length ≤ sz) (hi : i < xs.length) (hre : (reCell xs[i] (putCells xs[i].cells off x.cells)).cells = putCells xs[i].cells off x.cells) :
    ∃ cur', (storeCells ⟨b, i * sz + off, none⟩ v.cells.toList 0).run P w = .ok () (w.setRow b cur') ∧ OwnRep (w.setRow b cur') g B true e sz (xs.set i (reCell xs[i] (putCells xs[i].cells off x.cells))) tv ∧ Keeps w g (w.setRow b cur') g := by
  obtain ⟨hpos, hu, vs, hrow, hone, hrep, hpub⟩ := hown
  obtain ⟨q1, q2, q3⟩ := solid_rep hs hr
  rcases hrow.2 with ⟨h0, -⟩ | ⟨gb, cap, cur, hv, b1, b2, b3, b4, b5, b6⟩
  · rw [h0] at htv; cases htv
  have hv' := hv
  rw [htv] at hv'
  simp only [Value.slice.injEq, Option.some.injEq, Addr.mk.injEq, and_true] at hv'
  obtain ⟨rfl, rfl, rfl⟩ := hv'
  have hp0 : g.pub b = 0 := by have := hpub b (by rw [hv]; rfl); simpa using this
  have hvl : v.cells.toList.length = x.cells.length := by simpa using q1
  have hvs : vs.length = xs.length * sz := hrow.1
  have hfl := flat_length hu
  have hle : i * sz + sz ≤ xs.length * sz := by
    have : (i + 1) * sz ≤ xs.length * sz := Nat.mul_le_mul_right _ hi
    rw [Nat.add_mul] at this; omega
  have hle2 : xs.length * sz ≤ c * sz := Nat.mul_le_mul_right _ b3
  have hk : Keeps w g (w.setRow b (cur.toList.take (i * sz + off) ++ v.cells.toList ++ cur.toList.drop (i * sz + off + v.cells.toList.length)).toArray) g := keeps_setRow (e := e) (cur := cur) (fr := (0, 0)) hp0
  have hst := run_storeCells_at P b (i * sz + off) e v.cells.toList 0 cur w b2 (by rw [hvl]; omega) q2
  simp only [Nat.add_zero] at hst
  have hxl := hu _ (List.getElem_mem hi)
  have hpl : (putCells xs[i].cells off x.cells).length = sz := by simp [putCells]; omega
  refine ⟨_, hst, ⟨hpos, fun y hy => ?_, vs.take (i * sz + off) ++ v.cells.toList ++ vs.drop (i * sz + off + v.cells.toList.length), ?_, fun u hu' => ?_, fun j u hj => ?_, fun b' hb' => ?_⟩, hk⟩
  · rcases List.mem_or_eq_of_mem_set hy with h | rfl
    · exact hu y h
    · rw [hre]; exact hpl
  · rw [List.length_set]
    refine ⟨by simp; omega, .inr ⟨b, c, _, hv, b1, setRow_heap w b cur _ e _ b2, b3, b4, ?_, ?_⟩⟩
    · simp; omega
    · rw [← b6]
      apply List.ext_getElem?
      intro j
      simp only [List.getElem?_take, List.getElem?_append, List.length_append, List.length_take, Array.length_toList, List.getElem?_drop, hvl]
      by_cases hj : j < xs.length * sz
      · simp only [hj, if_true]
        by_cases h1 : j < i * sz + off
        · have e1 : j < min (i * sz + off) cur.size := by omega
          have e2 : j < min (i * sz + off) (min (xs.length * sz) cur.size) := by omega
          simp only [e1, e2, if_true, h1, hj]
          rw [if_pos (by omega), if_pos (by omega)]
        · have m1 : min (i * sz + off) cur.size = i * sz + off := by omega
          have m2 : min (i * sz + off) (min (xs.length * sz) cur.size) = i * sz + off := by omega
          simp only [m1, m2, h1, if_false]
          by_cases h2 : j < i * sz + off + x.cells.length
          · rw [if_pos h2, if_pos h2]
          · rw [if_neg h2, if_neg h2]
            rw [show i * sz + off + x.cells.length + (j - (i * sz + off + x.cells.length)) = j by omega, if_pos hj]
      · simp only [hj, if_false]
        have m2 : min (i * sz + off) (min (xs.length * sz) cur.size) = i * sz + off := by omega
        rw [m2, if_neg (by omega), if_neg (by omega)]
  · simp only [List.mem_append] at hu'
    rcases hu' with (h | h) | h
    · exact hone u (List.mem_of_mem_take h)
    · exact q2 u h
    · exact hone u (List.mem_of_mem_drop h)
  · refine Rep.keep hk ?_
    have hu2 : ∀ y ∈ xs.set i (reCell xs[i] (putCells xs[i].cells off x.cells)), y.cells.length = sz := fun y hy => by
      rcases List.mem_or_eq_of_mem_set hy with h | rfl
      · exact hu y h
      · rw [hre]; exact hpl
    have hfl2 := flat_length hu2
    have hjl : j < xs.length * sz := by
      rcases Nat.lt_or_ge j (flat (xs.set i (reCell xs[i] (putCells xs[i].cells off x.cells)))).length with h | h
      · rw [hfl2, List.length_set] at h; exact h
      · rw [List.getElem?_eq_none h] at hj; cases hj
    have hq : j / sz < xs.length := Nat.div_lt_of_lt_mul (by rw [Nat.mul_comm]; exact hjl)
    have hjm : j / sz * sz + j % sz = j := by rw [Nat.mul_comm]; exact Nat.div_add_mod j sz
    have hr0 : j % sz < sz := Nat.mod_lt _ hpos
    have hge2 := flat_get hu2 (List.getElem?_eq_getElem (by rw [List.length_set]; exact hq)) (j % sz) hr0
    have hge1 := flat_get hu (List.getElem?_eq_getElem hq) (j % sz) hr0
    rw [hjm] at hge1 hge2
    rw [hge2] at hj
    rw [List.getD_eq_getElem?_getD]
    by_cases hqi : j / sz = i
    · have hgi : (xs.set i (reCell xs[i] (putCells xs[i].cells off x.cells)))[j / sz]'(by rw [List.length_set]; exact hq) = reCell xs[i] (putCells xs[i].cells off x.cells) := by simp [hqi]
      rw [hgi, hre] at hj
      have hji : j = i * sz + j % sz := by rw [← hqi]; omega
      simp only [putCells] at hj
      have htk : (xs[i].cells.take off).length = off := by simp; omega
      have htv : (vs.take (i * sz + off)).length = i * sz + off := by simp; omega
      rw [List.append_assoc] at hj ⊢
      rcases Nat.lt_or_ge (j % sz) off with h1 | h1
      · rw [List.getElem?_append_left (by omega), List.getElem?_take, if_pos h1] at hj
        rw [List.getElem?_append_left (by omega), List.getElem?_take, if_pos (by omega)]
        have e : xs[j / sz] = xs[i] := by congr 1
        rw [e] at hge1
        have := hrep j u (hge1.trans hj)
        simpa [List.getD_eq_getElem?_getD] using this
      · rw [List.getElem?_append_right (by omega), htk] at hj
        rw [List.getElem?_append_right (by omega), htv]
        rcases Nat.lt_or_ge (j % sz - off) x.cells.length with h2 | h2
        · rw [List.getElem?_append_left h2] at hj
          rw [List.getElem?_append_left (by omega), show j - (i * sz + off) = j % sz - off by omega]
          simpa [List.getD_eq_getElem?_getD] using q3 _ u hj
        · rw [List.getElem?_append_right h2, List.getElem?_drop, show off + x.cells.length + (j % sz - off - x.cells.length) = j % sz by omega] at hj
          rw [List.getElem?_append_right (by omega), List.getElem?_drop, hvl, show i * sz + off + x.cells.length + (j - (i * sz + off) - x.cells.length) = j by omega]
          have e : xs[j / sz] = xs[i] := by congr 1
          rw [e] at hge1
          have := hrep j u (hge1.trans hj)
          simpa [List.getD_eq_getElem?_getD] using this
    · have hgi : (xs.set i (reCell xs[i] (putCells xs[i].cells off x.cells)))[j / sz]'(by rw [List.length_set]; exact hq) = xs[j / sz] := by
        rw [List.getElem_set]; rw [if_neg (fun e => hqi e.symm)]
      rw [hgi] at hj
      have h1 := hrep j u (hge1.trans hj)
      rw [List.append_assoc]
      have htv : (vs.take (i * sz + off)).length = i * sz + off := by simp; omega
      rcases Nat.lt_or_ge (j / sz) i with h2 | h2
      · have : (j / sz + 1) * sz ≤ i * sz := Nat.mul_le_mul_right _ h2
        rw [Nat.add_mul] at this
        rw [List.getElem?_append_left (by omega), List.getElem?_take, if_pos (by omega)]
        simpa [List.getD_eq_getElem?_getD] using h1
      · have : (i + 1) * sz ≤ j / sz * sz := Nat.mul_le_mul_right _ (by omega)
        rw [Nat.add_mul] at this
        rw [List.getElem?_append_right (by omega), htv, List.getElem?_append_right (by omega), List.getElem?_drop, hvl, show i * sz + off + x.cells.length + (j - (i * sz + off) - x.cells.length) = j by omega]
        simpa [List.getD_eq_getElem?_getD] using h1
  · rw [hv] at hb'
    simp only [Value.ownBlock, Option.some.injEq] at hb'
    subst hb'
    simp [hp0]

theorem sound_store {N : Nat} {t : TypeId} {p x : Operand} (ho : o.op = .store t p x) (r : R H w0 g0 s h g a w) (hN : a.tmps.size = N) (hd : ∀ d, o.dst = some d → d < N)
    (hK : awpStore (szT P t) (mv s p) (frz s x).1 (frz s x).2 h K) : o.wp P a w (Aft N H w0 g0 o K) Q := by
  obtain ⟨hsol, hn, hK⟩ := hK
  have hp := (r.mv p).1
  obtain ⟨g1, r1, k1, p1, -⟩ := r.frz x
  obtain ⟨q1, -, -⟩ := solid_rep hsol p1
  have hrun : ∀ {b off : Nat} {w' : World}, a.eval p = .pointer (some ⟨b, off, none⟩) → (storeCells ⟨b, off, none⟩ (a.eval x).cells.toList 0).run P w = .ok () w' → (execOp a.eval o).run P w = .ok .skip w' := by
    intro b off w' he hst
    simp only [execOp, ho, Sem.run_bind, he, run_isStore hn q1, hst, Result.andThen_ok]
    rfl
  split at hK
  · rename_i k off hpl
    rw [hpl] at hp
    obtain ⟨b, hb1, hb2⟩ := hp
    split at hK
    · rename_i cs hs
      have hsl := r1.slots k
      rw [hs] at hsl
      obtain ⟨b', hb', hB, hrow⟩ := hsl
      have hbe : b' = b := by
        have := hb1.symm.trans hb'
        simpa using this.symm
      subst hbe
      obtain ⟨cur', c1, c2, c3⟩ := row_put (P := P) hrow hsol p1 hK.1
      exact aft_skip (r1.setBox hs hb1 c2 c3) hN hd (hrun hb2 c1) hK.2
    · rename_i i o0 hs
      have hsl := r1.slots k
      rw [hs] at hsl
      have hb1' : a.tmps.getD k undef = .pointer (some ⟨b, 0, none⟩) := hb1
      rw [hb1'] at hsl
      have hsl' : Rep w g1 (.ptr i o0) (.pointer (some ⟨b, 0, none⟩)) := hsl
      generalize hq : (some (⟨b, 0, none⟩ : Addr)) = q at hsl'
      cases hsl' with
      | ptr _ _ hi =>
        cases hq
        split at hK
        · rename_i cs ho
          have hrow : RowAt w g1 cs (g1.loc i) := r1.heap.obj i _ ho
          rw [Nat.zero_add] at hK
          obtain ⟨cur', c1, c2, c3⟩ := row_put (P := P) hrow hsol p1 hK.1
          exact aft_skip (r1.setObj ho c3 (fun k hk => setRow_other w _ k cur' hk) (by simp [World.setRow]) ⟨rfl, rfl, rfl⟩ (show ObjRep _ _ (.cells _) _ from c2)) hN hd (hrun hb2 c1) hK.2
        · exact hK.elim
    · exact hK.elim
  · rename_i i off hpl
    rw [hpl] at hp
    have hp' : Rep w g (.ptr i off) (a.eval p) := hp
    generalize hv : a.eval p = v at hp' hrun
    cases hp' with
    | ptr _ _ hi =>
    split at hK
    · rename_i cs hs
      have hrow : RowAt w g1 cs (g1.loc i) := r1.heap.obj i _ hs
      obtain ⟨cur', c1, c2, c3⟩ := row_put (P := P) hrow hsol p1 hK.1
      rw [k1.loc i hi] at c1 c2 c3
      refine aft_skip (r1.setObj hs c3 (fun k hk => setRow_other w _ k cur' (by rw [← k1.loc i hi]; exact hk)) (by simp [World.setRow]) ⟨rfl, rfl, rfl⟩ ?_) hN hd (hrun rfl c1) hK.2
      rw [k1.loc i hi]; exact c2
    · rename_i e m cs hs
      have hrow : RowE w g1 e m cs (g1.loc i) := r1.heap.obj i _ hs
      obtain ⟨b1, b2, b3⟩ := solid_rep hsol p1
      obtain ⟨cur', c1, c2, c3⟩ := row_putE (P := P) (xs := (Vm.frz s x).1.cells) (us := (a.eval x).cells.toList) hrow (by simpa using b1) b2 b3 hK.1
      rw [k1.loc i hi] at c1 c2 c3
      refine aft_skip (r1.setObj hs c3 (fun k hk => setRow_other w _ k cur' (by rw [← k1.loc i hi]; exact hk)) (by simp [World.setRow]) ⟨rfl, rfl, rfl⟩ ?_) hN hd (hrun rfl c1) hK.2
      rw [k1.loc i hi]; exact c2
    · exact hK.elim
  · rename_i k sz i off hpl
    rw [hpl] at hp
    obtain ⟨b, c, n, hb1, hb2⟩ := hp
    have hsl := r1.slots k
    unfold awpStoreE at hK
    split at hK
    · rename_i e sz' xs hs
      rw [hs] at hsl
      obtain ⟨rfl, hfit, hlt, hK⟩ := hK
      obtain ⟨hre, hK⟩ := hK _ (List.getElem?_eq_getElem hlt)
      obtain ⟨cur', c1, c2, c3⟩ := own_put (P := P) hsl hb1 hsol p1 hfit hlt hre
      have hpb : privB ((frz s x).2 k) (tmOf a k) = some b := by rw [hs, show tmOf a k = _ from hb1]; rfl
      exact aft_skip (r1.setOwn hs hpb c2 c3) hN hd (hrun hb2 c1) hK
    · exact hK.elim
  · exact hK.elim

theorem sound_makeFunc {N : Nat} {f : FuncId} {first caps : Array Operand} (ho : o.op = .makeFunc (.func f) first caps) (r : R H w0 g0 s h g a w) (hN : a.tmps.size = N) (hd : ∀ d, o.dst = some d → d < N)
    (hK : first = #[] ∧ K (.clo f (escs s h caps.toList).1) (escs s h caps.toList).2.1 (escs s h caps.toList).2.2) : o.wp P a w (Aft N H w0 g0 o K) Q := by
  obtain ⟨g1, r1, k1, l1, p1⟩ := R.escs caps.toList r
  obtain ⟨hf, hK⟩ := hK
  subst hf
  refine aft_rep r1 hN hd (v := .func (.func f) #[] (caps.map a.eval)) ?_ (.clo ?_ fun j u hu => ?_) hK
  · simp only [execOp, ho, Instr.makeFunc, Sem.run_bind, Sem.run_pure, Result.andThen_ok, Array.map_empty]
  · rw [l1]; simp
  · have := p1 j u hu
    simpa [Array.getD_eq_getD_getElem?, List.getD_eq_getElem?_getD] using this

end Go.Vm
