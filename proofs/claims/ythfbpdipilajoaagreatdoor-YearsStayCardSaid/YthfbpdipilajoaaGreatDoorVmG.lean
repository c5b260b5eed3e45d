/- A call does what its function was told; then whole pieces of code do what the interpreter says. -/
import Derived.Test.YthfbpdipilajoaaGreatDoorVmF
import Derived.Great.FillDense
set_option linter.unusedVariables false
set_option linter.unusedSimpArgs false
namespace Go.Vm
open Go.RowKit

section
variable {P : Program} {H : Hst} {w0 w w' : World} {g0 g g' : Gh} {s : Slots} {h h' : Heap} {a : Act} {o : Oper} {K : AV → Slots → Heap → Prop} {Q : Exit → Act → World → Prop}

theorem lt_of_heap {w : World} {b : Nat} {x : Obj} (h : w.heap[b]? = some x) : b < w.heap.size := by
  rcases Nat.lt_or_ge b w.heap.size with h' | h'
  · exact h'
  · simp [Array.getElem?_eq_none h'] at h

theorem priv_lt {w : World} {g : Gh} {B : Nat} {tm : Nat → Value} {x : AV} {v : Value} {b : Nat} (h : slotRep w g B tm x v) (hb : privB x v = some b) : B ≤ b ∧ b < w.heap.size := by
  cases x with
  | own m e sz xs =>
    obtain ⟨-, -, vs, ⟨-, h3⟩, -⟩ := h
    rcases h3 with ⟨rfl, -⟩ | ⟨gb, cap, cur, rfl, a1, a2, -⟩
    · simp [privB, Value.ownBlock] at hb
    · simp only [privB, Value.ownBlock, Option.some.injEq] at hb
      subst hb
      exact ⟨a1, lt_of_heap a2⟩
  | otup i m e sz xs rest =>
    obtain ⟨us, rfl, -, -, -, -, vs, ⟨-, h3⟩, -⟩ := h
    have hb' : (us.getD i undef).ownBlock = some b := hb
    rcases h3 with ⟨hv, -⟩ | ⟨gb, cap, cur, hv, a1, a2, -⟩
    · rw [hv] at hb'; simp [Value.ownBlock] at hb'
    · rw [hv] at hb'; simp only [Value.ownBlock, Option.some.injEq] at hb'
      subst hb'
      exact ⟨a1, lt_of_heap a2⟩
  | box cs =>
    obtain ⟨b', rfl, hB, vs, e, a1, -⟩ := h
    simp only [privB, Option.some.injEq] at hb
    subst hb
    exact ⟨hB, lt_of_heap a1⟩
  | iter id since seen c0 =>
    obtain ⟨b', rfl, hB, a1, -⟩ := h
    simp only [privB, Option.some.injEq] at hb
    subst hb
    exact ⟨hB, lt_of_heap a1⟩
  | _ => simp [privB] at hb

theorem HeapRep.pub0 (hr : HeapRep w g h) (i : Nat) (hi : i < g.n) : g.pub (g.loc i) = 0 := by
  have hi' : i < h.length := by rw [hr.n]; exact hi
  have := hr.obj i _ (List.getElem?_eq_getElem hi')
  cases ho : h[i] with
  | cells cs => rw [ho] at this; obtain ⟨vs, e, -, -, h0, -⟩ := this; exact h0
  | row e m cs => rw [ho] at this; obtain ⟨vs, -, -, -, h0, -⟩ := this; exact h0
  | map es => rw [ho] at this; exact this.1

theorem Frame.keeps (hf : Frame w g w') (hh : HeapRep w g h) (hfr : ∀ b, w.heap.size ≤ b → g.pub b = 0) (hn : g.n ≤ g'.n) (hl : ∀ i, i < g.n → g'.loc i = g.loc i)
    (hp : ∀ b, b < w.heap.size → g'.pub b = g.pub b) : Keeps w g w' g' := by
  have lt : ∀ b j, j < g.pub b → b < w.heap.size := fun b j hj => by
    rcases Nat.lt_or_ge b w.heap.size with h' | h'
    · exact h'
    · have := hfr b h'; omega
  refine ⟨fun b => ?_, fun b j v hj hv => ?_, hn, hl⟩
  · rcases Nat.lt_or_ge b w.heap.size with h' | h'
    · rw [hp b h']; exact Nat.le_refl _
    · rw [hfr b h']; exact Nat.zero_le _
  · have hb := lt b j hj
    have : w'.heap[b]? = w.heap[b]? := hf.block b hb fun i hi e => by
      have := hh.pub0 i hi; rw [e] at this; omega
    rw [World.cell?_of_block (a := ⟨b, j, none⟩) this]; exact hv

theorem Frame.trans (hf : Frame w0 g0 w) (hf' : Frame w g w') (hl : ∀ i, i < g0.n → g.loc i = g0.loc i) (h1 : ∀ i, i < g.n → g0.n ≤ i → w0.heap.size ≤ g.loc i) : Frame w0 g0 w' := by
  refine ⟨hf'.os.trans hf.os, hf'.tape.trans hf.tape, hf'.output.trans hf.output, Nat.le_trans hf.size hf'.size, fun k hk hno => ?_⟩
  rw [hf'.block k (Nat.lt_of_lt_of_le hk hf.size) fun i hi e => ?_]
  · exact hf.block k hk hno
  · rcases Nat.lt_or_ge i g0.n with hi' | hi'
    · exact hno i hi' ((hl i hi').symm.trans e)
    · have := h1 i hi hi'; omega

/-- Behind a call: the frame as it was, the objects as the call left them. -/
theorem R.called (r : R H w0 g0 s h g a w) (hf : Frame w g w') (hh : HeapRep w' g' h') (hn : g.n ≤ g'.n) (hl : ∀ i, i < g.n → g'.loc i = g.loc i)
    (hp : ∀ b, b < w.heap.size → g'.pub b = g.pub b) (h1 : ∀ i, i < g'.n → g.n ≤ i → w.heap.size ≤ g'.loc i) (hfr : ∀ b, w'.heap.size ≤ b → g'.pub b = 0) :
    R H w0 g0 s h' g' a w' := by
  have hk : Keeps w g w' g' := hf.keeps r.heap r.fresh hn hl hp
  have hs0 := r.frame.size
  have hb : ∀ i b, privB (s i) (tmOf a i) = some b → w'.heap[b]? = w.heap[b]? ∧ g'.pub b = g.pub b := fun i b hb => by
    have hlt := priv_lt (r.slots i) hb
    exact ⟨hf.block b hlt.2 fun k hk => r.sep i b hb k hk, hp b hlt.2⟩
  refine ⟨r.defers, fun i => (r.slots i).keepAt hk (hb i), r.apart, fun i b hi k hk' => ?_, hh, r.frame.trans hf r.loc0 r.loc1, Nat.le_trans r.n0 hn, fun i hi => ?_, fun b hb' => ?_, fun i hi h0 => ?_, hfr, fun i cs hi => (r.laid i cs hi).keep hk, r.kept.trans hk⟩
  · rcases Nat.lt_or_ge k g.n with hk2 | hk2
    · rw [hl k hk2]; exact r.sep i b hi k hk2
    · have := h1 k hk' hk2
      have := priv_lt (r.slots i) hi
      omega
  · rw [hl i (Nat.lt_of_lt_of_le hi r.n0)]; exact r.loc0 i hi
  · rw [hp b (Nat.lt_of_lt_of_le hb' hs0)]; exact r.old b hb'
  · rcases Nat.lt_or_ge i g.n with hi2 | hi2
    · rw [hl i hi2]; exact r.loc1 i hi2 h0
    · have := h1 i hi hi2; omega

theorem R.alloc (r : R H w0 g0 s h g a w) (x : Obj) : R H w0 g0 s h g a (w.alloc x) := by
  have hb : ∀ b, b < w.heap.size → (w.alloc x).heap[b]? = w.heap[b]? := fun b hb => Below.heap_alloc w x b hb
  have hsz : w.heap.size ≤ (w.alloc x).heap.size := by simp [World.alloc_eq]
  have lt : ∀ b j, j < g.pub b → b < w.heap.size := fun b j hj => by
    rcases Nat.lt_or_ge b w.heap.size with h' | h'
    · exact h'
    · have := r.fresh b h'; omega
  refine r.world ⟨fun b => Nat.le_refl _, fun b j v hj hv => ?_, Nat.le_refl _, fun _ _ => rfl⟩ rfl (fun i b hb' => ⟨hb b (priv_lt (r.slots i) hb').2, rfl⟩) (fun i hi => ⟨hb _ (r.heap.lt i hi), rfl⟩) ?_ hsz (fun _ _ => rfl) (fun b hb' => r.fresh b (Nat.le_trans hsz hb'))
  · rw [World.cell?_of_block (a := ⟨b, j, none⟩) (hb b (lt b j hj))]; exact hv
  · exact ⟨r.frame.os, r.frame.tape, r.frame.output, Nat.le_trans r.frame.size hsz, fun k hk hno => (hb k (Nat.lt_of_lt_of_le hk r.frame.size)).trans (r.frame.block k hk hno)⟩

theorem R.drew (r : R H w0 g0 s h g a w) : R H w0 g0 s h g a w.drew :=
  r.world ⟨fun b => Nat.le_refl _, fun b j v hj hv => hv, Nat.le_refl _, fun _ _ => rfl⟩ rfl (fun i b hb' => ⟨rfl, rfl⟩) (fun i hi => ⟨rfl, rfl⟩)
    ⟨r.frame.os, r.frame.tape, r.frame.output, r.frame.size, r.frame.block⟩ (Nat.le_refl _) (fun _ _ => rfl) r.fresh

theorem R.sep_new (r : R H w0 g0 s h g a w) : (∀ i, privB (s i) (tmOf a i) ≠ some w.heap.size) ∧ ∀ k, k < g.n → g.loc k ≠ w.heap.size :=
  ⟨fun i hi => by have := (priv_lt (r.slots i) hi).2; omega, fun k hk e => by have := r.heap.lt k hk; omega⟩

/-- An operation that changes the world. -/
theorem aft_world {N : Nat} {x : AV} {v : Value} (r' : R H w0 g0 s h g' a w') (hN : a.tmps.size = N) (hd : ∀ d, o.dst = some d → d < N)
    (hrun : (execOp a.eval o).run P w = .ok (.value v) w') (hx : slotRep w' g' w0.heap.size (tmOf a) x v)
    (hp : ∀ b, privB x v = some b → (∀ i, privB (s i) (tmOf a i) ≠ some b) ∧ ∀ k, k < g'.n → g'.loc k ≠ b) (hK : K x s h) :
    o.wp P a w (Aft N H w0 g0 o K) Q := by
  unfold Oper.wp
  rw [hrun, Oper.upon_value]
  refine ⟨x, s, h, g', hK, ?_, by rw [size_put]; exact hN⟩
  cases ho : o.dst with
  | none => exact r'
  | some d => exact r'.put (by rw [hN]; exact hd d ho) hx fun b hb => ⟨fun i _ => (hp b hb).1 i, (hp b hb).2⟩

theorem solid_rep {w : World} {g : Gh} {x : AV} {v : Value} (hs : solid x = true) (hr : Rep w g x v) :
    v.cells.size = x.cells.length ∧ (∀ u ∈ v.cells.toList, u.oneCell' = true) ∧ ∀ j u, x.cells[j]? = some u → Rep w g u (v.cells.toList.getD j undef) := by
  have one : x.cells = [x] → v.cells = #[v] → v.oneCell' = true → v.cells.size = x.cells.length ∧ (∀ u ∈ v.cells.toList, u.oneCell' = true) ∧ ∀ j u, x.cells[j]? = some u → Rep w g u (v.cells.toList.getD j undef) := by
    intro h1 h2 h3
    rw [h1, h2]
    refine ⟨rfl, fun u hu => by simp at hu; subst hu; exact h3, fun j u hu => ?_⟩
    cases j with
    | zero => simp at hu; subst hu; simpa using hr
    | succ j => simp at hu
  cases hr with
  | v h => exact one rfl (by cases v <;> first | rfl | simp [plain] at h) (plain_oneCell h)
  | nil => exact one rfl rfl rfl
  | empty => exact one rfl rfl rfl
  | sl => exact one rfl rfl rfl
  | @agg cs vs hl h1 hs' =>
    refine ⟨hl, fun u hu => ?_, fun j u hu => ?_⟩
    · obtain ⟨j, hj, rfl⟩ := List.getElem_of_mem hu
      have hj' : j < vs.size := by simpa [Value.cells] using hj
      have := h1 j hj'
      simpa [Array.getD, hj', Value.cells] using this
    · have := hs' j u hu
      simpa [Value.cells, Array.getD_eq_getD_getElem?, List.getD_eq_getElem?_getD] using this
  | tup => simp [solid] at hs
  | eptr => exact one rfl rfl rfl
  | ptr => exact one rfl rfl rfl
  | mp => exact one rfl rfl rfl
  | clo => exact one rfl rfl rfl
  | osl => simp [solid] at hs
  | any => simp [solid] at hs

/-- The cells of several values, side by side. -/
theorem solid_flat {w : World} {g : Gh} {sz : Nat} : ∀ {xs : List AV} {vs : List Value}, xs.length = vs.length → (∀ x ∈ xs, solid x = true ∧ x.cells.length = sz) → (∀ j u, xs[j]? = some u → Rep w g u (vs.getD j undef)) →
    (∀ v ∈ vs, v.cells.size = sz) ∧ (∀ u ∈ vs.flatMap fun v => v.cells.toList, u.oneCell' = true) ∧ ∀ j u, (flat xs)[j]? = some u → Rep w g u ((vs.flatMap fun v => v.cells.toList).getD j undef)
  | [], [], _, _, _ => ⟨by simp, by simp, by simp [flat]⟩
  | x :: xs, v :: vs, hl, hx, hr => by
    obtain ⟨h1, h2, h3⟩ := solid_rep (hx x (List.mem_cons_self ..)).1 (hr 0 x rfl)
    obtain ⟨i1, i2, i3⟩ := solid_flat (xs := xs) (vs := vs) (by simpa using hl) (fun y hy => hx y (List.mem_cons_of_mem _ hy)) (fun j u hu => hr (j + 1) u (by simpa using hu))
    have hsz := (hx x (List.mem_cons_self ..)).2
    simp only [List.getD_cons_zero] at h1 h2 h3
    refine ⟨fun u hu => ?_, fun u hu => ?_, fun j u hu => ?_⟩
    · rcases List.mem_cons.1 hu with rfl | hu
      · omega
      · exact i1 u hu
    · simp only [List.flatMap_cons, List.mem_append] at hu
      rcases hu with hu | hu
      · exact h2 u hu
      · exact i2 u hu
    · simp only [flat, List.flatMap_cons] at hu i3 ⊢
      have hvl : v.cells.toList.length = x.cells.length := by simpa using h1
      rw [List.getD_eq_getElem?_getD]
      rcases Nat.lt_or_ge j x.cells.length with hj | hj
      · rw [List.getElem?_append_left hj] at hu
        rw [List.getElem?_append_left (by omega)]
        simpa [List.getD_eq_getElem?_getD] using h3 j u hu
      · rw [List.getElem?_append_right hj] at hu
        rw [List.getElem?_append_right (by omega), hvl]
        simpa [List.getD_eq_getElem?_getD] using i3 _ u hu

theorem zip_parts (f : Operand → Value) : ∀ (l : List (Nat × Operand)) (k : Nat), l.map (·.1) = (List.range l.length).map (· + k) → l.map (fun p => (p.1, f p.2)) = ((l.map fun p => f p.2).zipIdx k).map fun x => (x.2, x.1)
  | [], k, _ => rfl
  | (i, x) :: l, k, h => by
    rw [List.length_cons, List.range_succ_eq_map] at h
    simp only [List.map_cons, List.map_map, List.cons.injEq, Nat.zero_add] at h
    obtain ⟨rfl, h⟩ := h
    simp only [List.map_cons, List.zipIdx_cons, List.cons.injEq, true_and]
    refine zip_parts f l (i + 1) ?_
    rw [h]
    apply List.map_congr_left
    intro j _
    simp only [Function.comp_apply]
    omega

theorem sound_buildSlice {N : Nat} {t : TypeId} {n : Nat} {parts : Array (Nat × Operand)} (ho : o.op = .buildSlice t n parts) (r : R H w0 g0 s h g a w) (hN : a.tmps.size = N) (hd : ∀ d, o.dst = some d → d < N)
    (hK : awpBS P (elemSz P t) n (parts.toList.map (·.1)) (frzs s (parts.toList.map (·.2))).1 fun v => K v (frzs s (parts.toList.map (·.2))).2 h) : o.wp P a w (Aft N H w0 g0 o K) Q := by
  unfold awpBS at hK
  split at hK
  · rename_i e sz he
    obtain ⟨hz, hsz, hsmall, hix, hlen, hsol, hK⟩ := hK
    obtain ⟨hu, inf, hinf, hisz⟩ := elemSz_spec he
    obtain ⟨g1, r1, k1, l1, n1, p1⟩ := R.frzs (parts.toList.map (·.2)) r
    have hpl : parts.toList.length = n := by simpa [l1] using hlen
    have hzz : ∃ z, inf.zero = some z := by
      rw [hinf] at hz; simp only [Option.any_some] at hz
      exact Option.isSome_iff_exists.1 hz
    obtain ⟨z, hz⟩ := hzz
    let vs := (parts.toList.map (·.2)).map a.eval
    have hvl : vs.length = n := by simp [vs, hpl]
    obtain ⟨q1, q2, q3⟩ := solid_flat (w := w) (g := g1) (xs := (frzs s (parts.toList.map (·.2))).1) (vs := vs) (by rw [hlen, hvl]) hsol p1
    have hfill := Great.fill_whole hsz vs ((Array.range (n * sz)).map (z.cells[· % z.cells.size]!)) q1 (by simp [hvl])
    have hparts : parts.toList.map (fun p => (p.1, a.eval p.2)) = (vs.zipIdx 0).map fun x => (x.2, x.1) := by
      have := zip_parts a.eval parts.toList 0 (by rw [hix, hpl]; simp)
      rw [this]; simp [vs, Function.comp_def]
    have hne : n * sz = 0 → vs = [] := fun h0 => by
      have : n = 0 := by rcases Nat.mul_eq_zero.1 h0 with h | h <;> omega
      exact List.eq_nil_of_length_eq_zero (by omega)
    have hcl : (vs.flatMap fun v => v.cells.toList).length = n * sz := by
      have : ∀ l : List Value, (∀ v ∈ l, v.cells.size = sz) → (l.flatMap fun v => v.cells.toList).length = l.length * sz := fun l => by
        induction l with
        | nil => intro _; simp
        | cons y ys ih =>
          intro hy
          simp only [List.flatMap_cons, List.length_append, List.length_cons]
          rw [ih fun v hv => hy v (List.mem_cons_of_mem _ hv), Nat.add_mul]
          have := hy y (List.mem_cons_self ..)
          simp; omega
      rw [this vs q1, hvl]
    have hrun : (execOp a.eval o).run P w = .ok (.value (.slice (some ⟨w.heap.size, 0, none⟩) n n)) (w.alloc (.cells (vs.flatMap fun v => v.cells.toList).toArray e)) := by
      have hp2 : (parts.map fun (p : Nat × Operand) => (p.1, a.eval p.2)).toList = (vs.zipIdx 0).map fun x => (x.2, x.1) := by rw [Array.toList_map]; exact hparts
      have hzr : (zeroValue e).run P w = .ok z w := by simp [zeroValue, typeInfo, hinf, hz]
      by_cases h0 : n * sz = 0
      · have hfill0 : Instr.fill (fun i => some (i * sz, sz)) ((Array.range (n * sz)).map ((#[] : Array Value)[· % (#[] : Array Value).size]!)) ((vs.zipIdx 0).map fun x => (x.2, x.1)) = some (vs.flatMap fun v => v.cells.toList).toArray := by
          rw [hne h0]; simp [Instr.fill, h0]
        simp only [execOp, ho, Sem.run_bind, Instr.buildSlice, run_underlying hu, Result.andThen_ok, run_sizeOf hinf, hisz, show ¬ n * sz > 2 ^ 24 by omega, if_false, Sem.run_pure]
        rw [if_pos h0]
        simp only [Sem.run_bind, Sem.run_pure, Result.andThen_ok, hp2, hfill0, newRow, newObj]
        rfl
      · simp only [execOp, ho, Sem.run_bind, Instr.buildSlice, run_underlying hu, Result.andThen_ok, run_sizeOf hinf, hisz, show ¬ n * sz > 2 ^ 24 by omega, if_false, Sem.run_pure]
        rw [if_neg h0]
        simp only [Sem.run_bind, hzr, Sem.run_pure, Result.andThen_ok, hp2, hfill, newRow, newObj]
        rfl
    have r2 := r1.alloc (.cells (vs.flatMap fun v => v.cells.toList).toArray e)
    have hkeep : Keeps w g1 (w.alloc (.cells (vs.flatMap fun v => v.cells.toList).toArray e)) g1 := ⟨fun b => Nat.le_refl _, fun b j v hj hv => by
      have hb : b < w.heap.size := by
        rcases Nat.lt_or_ge b w.heap.size with h' | h'
        · exact h'
        · have := r1.fresh b h'; omega
      rw [World.cell?_of_block (a := ⟨b, j, none⟩) (Below.heap_alloc w _ b hb)]; exact hv, Nat.le_refl _, fun _ _ => rfl⟩
    refine aft_world r2 hN hd hrun (x := .own true e sz (frzs s (parts.toList.map (·.2))).1) ?_ (fun b hb => ?_) hK
    · refine ⟨hsz, fun x hx => (hsol x hx).2, vs.flatMap fun v => v.cells.toList, ?_, q2, fun j u hu => (q3 j u hu).keep hkeep, fun b hb => ?_⟩
      · rw [hlen]
        refine ⟨hcl, .inr ⟨w.heap.size, n, _, rfl, r1.frame.size, heap_alloc_new w _, Nat.le_refl _, ?_, by simp [hcl], ?_⟩⟩
        · unfold maxLen
          have : n ≤ n * sz := Nat.le_mul_of_pos_right _ hsz
          omega
        · rw [← hcl]; exact List.take_length
      · simp only [Value.ownBlock, Option.some.injEq] at hb
        subst hb
        rw [r1.fresh _ (Nat.le_refl _)]; exact Nat.zero_le _
    · simp only [privB, Value.ownBlock, Option.some.injEq] at hb
      subst hb
      exact r1.sep_new
  · exact hK.elim

theorem sound_cv {N : Nat} {t t' : TypeId} {x : Operand} (ho : o.op = .convert t t' x) (r : R H w0 g0 s h g a w) (hN : a.tmps.size = N) (hd : ∀ d, o.dst = some d → d < N)
    (hK : awpCv P t t' (tk s x) (ev s x) s fun v s' => K v s' h) : o.wp P a w (Aft N H w0 g0 o K) Q := by
  unfold awpCv at hK
  split at hK
  · rename_i m e sz xs s' hp
    obtain ⟨hne, rfl, hty, hK⟩ := hK
    have htk := r.tk x
    have hle := r.le (le_tk s x)
    rw [hp] at htk hle
    obtain ⟨⟨q1, q2, vs, q3, q4, q5, q6⟩, hpr⟩ := htk
    have hK' : K (.sl sz xs) s' h := hK
    split at hty
    · rename_i e' hu
      rcases q3.2 with ⟨hv, h0⟩ | ⟨gb, cap, cur, hv, b1, b2, b3, b4, b5, b6⟩
      · exact absurd (List.eq_nil_of_length_eq_zero h0) hne
      · have hgb := lt_of_heap b2
        obtain ⟨p1, p2⟩ := hpr gb (by rw [hv]; rfl)
        have hxl := flat_length q2
        -- the block as it is behind the mark
        have hfz : ∀ k, k ≠ gb → (w.freeze ⟨gb, cur.size, none⟩ 1).heap[k]? = w.heap[k]? := fun k hk => by
          simp only [World.freeze, Nat.one_ne_zero, if_false]
          rw [Array.getElem?_modify]
          simp [Ne.symm hk]
        have hfg : (w.freeze ⟨gb, cur.size, none⟩ 1).heap[gb]? = some (.cells cur e (cur.size, cur.size + 1)) := by
          simp only [World.freeze, Nat.one_ne_zero, if_false]
          rw [Array.getElem?_modify]
          simp [b2]
        have hsz : (w.freeze ⟨gb, cur.size, none⟩ 1).heap.size = w.heap.size := by simp [World.freeze]
        have hcell : ∀ b j v, w.cell? ⟨b, j, none⟩ = some v → (w.freeze ⟨gb, cur.size, none⟩ 1).cell? ⟨b, j, none⟩ = some v := fun b j v hcv => by
          by_cases hb : b = gb
          · subst hb
            rw [cell_of_row _ b j cur e _ hfg]
            rw [cell_of_row _ b j cur e _ b2] at hcv
            exact hcv
          · rw [World.cell?_of_block (a := ⟨b, j, none⟩) (hfz b hb)]; exact hcv
        have hk1 := keeps_raise w g gb (xs.length * sz)
        have hk : Keeps w g (w.freeze ⟨gb, cur.size, none⟩ 1) (raise g gb (xs.length * sz)) := ⟨hk1.pub, fun b j v _ hcv => hcell b j v hcv, Nat.le_refl _, fun _ _ => rfl⟩
        have r2 : R H w0 g0 s' h (raise g gb (xs.length * sz)) a (w.freeze ⟨gb, cur.size, none⟩ 1) := by
          refine hle.world hk rfl (fun i b hb => ?_) (fun i hi => ?_) ?_ (by rw [hsz]; exact Nat.le_refl _) (fun b hb => raise_other (by omega)) (fun b hb => ?_)
          · have : b ≠ gb := fun e => p1 i (e ▸ hb)
            exact ⟨hfz b this, raise_other this⟩
          · exact ⟨hfz _ (p2 i hi), raise_other (p2 i hi)⟩
          · refine ⟨r.frame.os, r.frame.tape, r.frame.output, by rw [hsz]; exact r.frame.size, fun k hk hno => ?_⟩
            rw [hfz k (by omega)]; exact r.frame.block k hk hno
          · rw [hsz] at hb
            rw [raise_other (by omega)]; exact r.fresh b hb
        refine aft_world r2 hN hd (v := a.eval x) ?_ (x := .sl sz xs) (slotRep_of_rep rfl ?_) (fun b hb => by cases hb) hK'
        · rw [hv]
          simp only [execOp, ho, hv, convert, Sem.run_bind, run_underlying hu, Result.andThen_ok, beq_self_eq_true, run_underlying hty]
          have hsh : w.shape? gb = some (e, cur.size) := by simp [World.shape?, b2]
          simp [markStringish, shape, Sem.run, hsh, freeze]
        · rw [hv]
          have hpub : (raise g gb (xs.length * sz)).pub gb = xs.length * sz := by
            have := q6 gb (by rw [hv]; rfl)
            simp only [raise, if_true]
            split at this <;> omega
          refine .sl (fun j => vs.getD j undef) b3 b4 q1 q2 (fun j u hj => ?_) (fun j u hj => (q5 j u hj).keep hk)
          have hjl : j < xs.length * sz := by
            rw [← hxl]
            rcases Nat.lt_or_ge j (flat xs).length with h' | h'
            · exact h'
            · simp [List.getElem?_eq_none h'] at hj
          have hvl := q3.1
          refine ⟨?_, by rw [hpub]; omega, q4 _ ?_⟩
          · rw [Nat.zero_add]
            exact hcell _ _ _ (ownsRow_cell q3 hv j (by omega))
          · rw [List.getD_eq_getElem?_getD, List.getElem?_eq_getElem (by omega)]
            exact List.getElem_mem _
    · exact hty.elim
  · exact sound_conv ho r hN hd hK

theorem ownsRow_base {w : World} {B B' e sz : Nat} {v : Value} {n : Nat} {vs : List Value} (h : w.ownsRow B e sz v n vs) (hB : B' ≤ B) : w.ownsRow B' e sz v n vs :=
  ⟨h.1, h.2.imp_right fun ⟨gb, cap, cur, e1, e2, e3⟩ => ⟨gb, cap, cur, e1, Nat.le_trans hB e2, e3⟩⟩

theorem run_callFunc {f : FuncId} {fn : Func} (h1 : P.funcs[f]? = some fn) (h2 : fn.body.isNone = false) (h3 : (fn.name == "runtime.NumGoroutine") = false) (vs : Array Value) :
    (callFunc f vs).run P w = .ok (.enter f vs) w := by
  simp only [callFunc, program, Sem.run_bind, Sem.run, Result.andThen_ok, h1, h2, h3, if_false, Bool.false_eq_true]
  rfl

mutual
theorem ga_rep {w : World} {g : Gh} {x y : AV} {v : Value} (h : Ga x y) (r : Rep w g x v) : Rep w g y v := by
  cases h with
  | refl => exact r
  | any => exact .any v
  | nil sz => rw [(rep_v r).1]; exact .nil sz
  | agg h =>
    obtain ⟨h1, h2⟩ := gaL_rep (w := w) (g := g) h
    cases r with
    | agg hl h0 hs => exact .agg (by omega) h0 (h2 _ hs)
  | tup h =>
    obtain ⟨h1, h2⟩ := gaL_rep (w := w) (g := g) h
    cases r with
    | tup hl hs => exact .tup (by omega) (h2 _ hs)
theorem gaL_rep {w : World} {g : Gh} {xs ys : List AV} (h : GaL xs ys) : xs.length = ys.length ∧ ∀ (vs : Nat → Value), (∀ j u, xs[j]? = some u → Rep w g u (vs j)) → ∀ j u, ys[j]? = some u → Rep w g u (vs j) := by
  cases h with
  | nil => exact ⟨rfl, fun vs h j u hu => by simp at hu⟩
  | cons hx ht =>
    obtain ⟨h1, h2⟩ := gaL_rep (w := w) (g := g) ht
    refine ⟨by simp [h1], fun vs hr j u hu => ?_⟩
    cases j with
    | zero => simp only [List.getElem?_cons_zero, Option.some.injEq] at hu; subst hu; exact ga_rep hx (hr 0 _ rfl)
    | succ j =>
      simp only [List.getElem?_cons_succ] at hu
      exact h2 (fun j => vs (j + 1)) (fun j u hu => hr (j + 1) u (by simpa using hu)) j u hu
end

/-- A variable of the call's own becomes an object. -/
theorem R.promote (r : R H w0 g0 s h g a w) {t : Nat} {cs : List AV} (hs : s t = .box cs) :
    ∃ g', R H w0 g0 (Vm.set s t (.ptr h.length 0)) (h ++ [.cells cs]) g' a w ∧ Keeps w g w g' ∧ Rep w g' (.ptr h.length 0) (tmOf a t) := by
  have hsl := r.slots t
  rw [hs] at hsl
  obtain ⟨b, hv, hB, hrow⟩ := hsl
  have hb : privB (s t) (tmOf a t) = some b := by
    rw [hs]; show privB (.box cs) (a.tmps.getD t undef) = _; rw [hv]; rfl
  have hn := r.heap.n
  have hk : Keeps w g w { g with n := g.n + 1, loc := fun i => if i = g.n then b else g.loc i } :=
    ⟨fun _ => Nat.le_refl _, fun _ _ _ _ h => h, Nat.le_succ _, fun i hi => by simp only []; rw [if_neg (by omega)]⟩
  have hrep : Rep w { g with n := g.n + 1, loc := fun i => if i = g.n then b else g.loc i } (.ptr h.length 0) (tmOf a t) := by
    have := Rep.ptr (w := w) (g := { g with n := g.n + 1, loc := fun i => if i = g.n then b else g.loc i }) h.length 0 (by simp only []; omega)
    simp only [hn, if_true] at this
    show Rep w _ (.ptr h.length 0) (a.tmps.getD t undef)
    rw [hv, hn]; exact this
  refine ⟨_, ?_, hk, hrep⟩
  have hpr : ∀ i, privB (Vm.set s t (.ptr h.length 0) i) (tmOf a i) = if i = t then none else privB (s i) (tmOf a i) := fun i => by
    unfold Vm.set; split <;> rfl
  refine ⟨r.defers, fun i => ?_, fun i j b' hi hj => ?_, fun i b' hi k hk' => ?_, ?_, r.frame, Nat.le_trans r.n0 (Nat.le_succ _), fun i hi => ?_, r.old, fun i hi h0 => ?_, r.fresh, fun i cs hi => (r.laid i cs hi).keep hk, r.kept.trans hk⟩
  · by_cases hi : i = t
    · subst hi; simp only [Vm.set, if_true]; exact hrep
    · simp only [Vm.set, hi, if_false]; exact (r.slots i).keepAt hk fun b' _ => ⟨rfl, rfl⟩
  · have hi' : privB (Vm.set s t (.ptr h.length 0) i) (tmOf a i) = some b' := hi
    have hj' : privB (Vm.set s t (.ptr h.length 0) j) (tmOf a j) = some b' := hj
    rw [hpr] at hi' hj'
    split at hi'
    · cases hi'
    · split at hj'
      · cases hj'
      · exact r.apart i j b' hi' hj'
  · have hi' : privB (Vm.set s t (.ptr h.length 0) i) (tmOf a i) = some b' := hi
    rw [hpr] at hi'
    split at hi'
    · cases hi'
    · rename_i hit
      simp only [] at hk' ⊢
      split
      · intro e
        exact hit (r.apart i t b' hi' (e ▸ hb))
      · exact r.sep i b' hi' k (by omega)
  · refine ⟨by simp [hn], fun i hi => ?_, fun i j hi hj e => ?_, fun i o' ho => ?_⟩
    · simp only [] at hi ⊢
      split
      · exact (priv_lt (r.slots t) hb).2
      · exact r.heap.lt i (by omega)
    · simp only [] at hi hj e
      split at e <;> split at e
      · omega
      · exact absurd e.symm (r.sep t b hb j (by omega))
      · exact absurd e (r.sep t b hb i (by omega))
      · exact r.heap.inj i j (by omega) (by omega) e
    · simp only []
      rcases Nat.lt_or_ge i h.length with hlt | hge
      · rw [List.getElem?_append_left hlt] at ho
        rw [if_neg (by omega)]
        exact (r.heap.obj i o' ho).keepAt hk ⟨rfl, rfl⟩
      · rw [List.getElem?_append_right hge] at ho
        have hi0 : i - h.length = 0 := by
          rcases Nat.eq_zero_or_pos (i - h.length) with h0 | h0
          · exact h0
          · rw [List.getElem?_eq_none (by simp only [List.length_cons, List.length_nil]; omega)] at ho; cases ho
        rw [hi0] at ho
        simp only [List.getElem?_cons_zero, Option.some.injEq] at ho
        subst ho
        rw [if_pos (by omega)]
        exact hrow.keepAt hk ⟨rfl, rfl⟩
  · simp only []; rw [if_neg (by have := r.n0; omega)]; exact r.loc0 i hi
  · simp only [] at hi ⊢
    split
    · exact hB
    · exact r.loc1 i (by omega) h0

theorem R.esc (r : R H w0 g0 s h g a w) (o : Operand) :
    ∃ g', R H w0 g0 (Vm.esc s h o).2.1 (Vm.esc s h o).2.2 g' a w ∧ Keeps w g w g' ∧ Rep w g' (Vm.esc s h o).1 (a.eval o) := by
  have hfr : ∃ g', R H w0 g0 (Vm.frz s o).2 h g' a w ∧ Keeps w g w g' ∧ Rep w g' (Vm.frz s o).1 (a.eval o) := by
    obtain ⟨g', h1, h2, h3, -⟩ := r.frz o
    exact ⟨g', h1, h2, h3⟩
  unfold Vm.esc
  split
  · rename_i t
    unfold escA
    split
    · rename_i cs hs
      exact r.promote hs
    · rename_i k off hst
      have hsl := r.slots t
      rw [hst] at hsl
      obtain ⟨b, hb, hv⟩ := hsl
      have hv' : a.eval (.tmp t) = .pointer (some ⟨b, off, none⟩) := hv
      unfold escP
      split
      · rename_i cs hs
        obtain ⟨g', r', k', p'⟩ := r.promote hs
        refine ⟨g', r', k', ?_⟩
        rw [hv']
        have hb' : tmOf a k = .pointer (some ⟨b, 0, none⟩) := hb
        rw [hb'] at p'
        generalize hq : (some (⟨b, 0, none⟩ : Addr)) = q at p'
        cases p' with
        | ptr _ _ hi =>
          cases hq
          exact .ptr _ _ hi
      · rename_i i o0 hs
        have hk := r.slots k
        rw [hs] at hk
        have hb' : a.tmps.getD k undef = .pointer (some ⟨b, 0, none⟩) := hb
        rw [hb'] at hk
        refine ⟨g, r, Keeps.refl w g, ?_⟩
        rw [hv']
        have hk' : Rep w g (.ptr i o0) (.pointer (some ⟨b, 0, none⟩)) := hk
        generalize hq : (some (⟨b, 0, none⟩ : Addr)) = q at hk'
        cases hk' with
        | ptr _ _ hi =>
          cases hq
          rw [Nat.zero_add]
          exact .ptr _ _ hi
      · exact hfr
    · exact hfr
  · exact hfr

theorem R.escs : ∀ (os : List Operand) {s : Slots} {h : Heap} {g : Gh}, R H w0 g0 s h g a w →
    ∃ g', R H w0 g0 (Vm.escs s h os).2.1 (Vm.escs s h os).2.2 g' a w ∧ Keeps w g w g' ∧ (Vm.escs s h os).1.length = os.length ∧ ∀ j u, (Vm.escs s h os).1[j]? = some u → Rep w g' u ((os.map a.eval).getD j undef)
  | [], s, h, g, r => ⟨g, r, Keeps.refl w g, rfl, fun j u hu => by simp [Vm.escs] at hu⟩
  | o :: os, s, h, g, r => by
    obtain ⟨g1, r1, k1, p1⟩ := r.esc o
    obtain ⟨g2, r2, k2, l2, p2⟩ := R.escs os r1
    refine ⟨g2, r2, k1.trans k2, by simp [Vm.escs, l2], fun j u hu => ?_⟩
    cases j with
    | zero =>
      simp only [Vm.escs, List.getElem?_cons_zero, Option.some.injEq] at hu
      subst hu
      simpa using p1.keep k2
    | succ j =>
      simp only [Vm.escs, List.getElem?_cons_succ] at hu
      simpa using p2 j u hu

theorem sound_call {N : Nat} {T : FuncId → Option Spec} {f : FuncId} {caps : List AV} {x : Operand} {os : Array Operand} {ts : Array TypeId} (hT : ∀ f S, T f = some S → Does P f S)
    (ho : o.op = .call { callee := .value x, args := os, argTypes := ts }) (r : R H w0 g0 s h g a w) (hN : a.tmps.size = N) (hd : ∀ d, o.dst = some d → d < N)
    (hf : ev s x = .clo f caps) (hK : awpCall T f caps os.toList s h K) : o.wp P a w (Aft N H w0 g0 o K) Q := by
  have hx := r.eval x
  · rw [hf] at hx
    have hx' : Rep w g (.clo f caps) (a.eval x) := hx
    generalize hv : a.eval x = v at hx'
    cases hx' with
    | @clo _ _ cv hcl hcs =>
    unfold awpCall at hK
    split at hK
    · rename_i S hS
      obtain ⟨as, hga, Q0, hS0, hQ⟩ := hK
      obtain ⟨⟨fn, hf1, hf2, hf3⟩, hdo⟩ := hT f S hS
      obtain ⟨g1, r1, k1, l1, p1⟩ := R.escs os.toList r
      have hrun : (execOp a.eval o).run P w = .ok (.enter f ((os.toList.map a.eval).toArray ++ cv)) w := by
        have hA : os.map a.eval = (os.toList.map a.eval).toArray := by apply Array.ext'; simp
        simp only [execOp, ho, resolve, Sem.run_bind, hA, hv, Deferred.ofValue]
        simp [invoke, run_callFunc hf1 hf2 hf3]
      unfold Oper.wp
      rw [hrun, Oper.upon]
      refine (hdo _ _ Q0 hS0 w g1 ((os.toList.map a.eval).toArray ++ cv) (by rw [← (gaL_rep (w := w) (g := g1) hga).1]; simp [l1, hcl]) ((gaL_rep hga).2 (fun j => ((os.toList.map a.eval).toArray ++ cv).getD j undef) (fun j u hu => ?_)) r1.heap r1.fresh r1.laid).mono ?_
      · rcases Nat.lt_or_ge j os.toList.length with hj | hj
        · rw [List.getElem?_append_left (by omega)] at hu
          have := p1 j u hu
          have e : ((os.toList.map a.eval).toArray ++ cv).getD j undef = (os.toList.map a.eval).getD j undef := by
            simp only [Array.getD_eq_getD_getElem?, List.getD_eq_getElem?_getD]
            rw [Array.getElem?_append_left (by simpa using hj)]; simp
          rw [e]; exact this
        · rw [List.getElem?_append_right (by omega), l1] at hu
          have := (hcs _ u hu).keep k1
          have e : ((os.toList.map a.eval).toArray ++ cv).getD j undef = cv.getD (j - os.toList.length) undef := by
            simp only [Array.getD_eq_getD_getElem?]
            rw [Array.getElem?_append_right (by simpa using hj)]; simp
          rw [e]; exact this
      · rintro e w' ⟨x, h', g', v, hq, rfl, hx, hh, hfr, hn, hl, hp, h1, hfresh⟩
        have r2 := r1.called hfr hh hn hl hp h1 hfresh
        refine ⟨x, _, h', g', hQ x h' hq, ?_, by rw [size_put]; exact hN⟩
        cases hdst : o.dst with
        | none => exact r2
        | some d =>
          have hdl : d < a.tmps.size := by rw [hN]; exact hd d hdst
          cases x with
          | own m e sz xs =>
            obtain ⟨⟨q1, q2, vs, q3, q4, q5, q6⟩, hx2⟩ := hx
            refine r2.put hdl ⟨q1, q2, vs, ownsRow_base q3 r1.frame.size, q4, q5, q6⟩ fun b hb => ⟨fun i _ hi => ?_, fun k hk => hx2 b hb k hk⟩
            have hlt := (priv_lt (r1.slots i) hi).2
            have hge := (priv_lt (x := .own m e sz xs) (B := w.heap.size) (tm := tmOf a) ⟨q1, q2, vs, q3, q4, q5, q6⟩ hb).1
            omega
          | otup i m e sz xs rest =>
            obtain ⟨⟨us, rfl, p1, p2, q1, q2, vs, q3, q4, q5, q6⟩, hx2⟩ := hx
            refine r2.put hdl ⟨us, rfl, p1, p2, q1, q2, vs, ownsRow_base q3 r1.frame.size, q4, q5, q6⟩ fun b hb => ⟨fun i' _ hi => ?_, fun k hk => hx2 b hb k hk⟩
            have hlt := (priv_lt (r1.slots i') hi).2
            have hge := (priv_lt (x := .otup i m e sz xs rest) (B := w.heap.size) (tm := tmOf a) ⟨us, rfl, p1, p2, q1, q2, vs, q3, q4, q5, q6⟩ hb).1
            omega
          | _ => exact r2.put_rep hdl hx
    · exact hK.elim

end
end Go.Vm
