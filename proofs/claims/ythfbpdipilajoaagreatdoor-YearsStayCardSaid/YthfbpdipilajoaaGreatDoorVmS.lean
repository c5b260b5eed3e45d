/- A call that turns a slice of the call's own in place: the slice is an object meanwhile. -/
import Derived.Test.YthfbpdipilajoaaGreatDoorVmN
set_option linter.unusedVariables false
set_option linter.unusedSimpArgs false
namespace Go.Vm
open Go.RowKit

/-- What was represented by few objects still is. -/
theorem Rep.drop {w : World} {g : Gh} {x : AV} {v : Value} (h : Rep w g x v) : ∀ {w' : World} {g' : Gh} {v' : Value}, Rep w' g' x v' → Rep w' { g' with n := g.n } x v' := by
  induction h with
  | v h => intro w' g' v' h'; cases h' with | v h => exact .v h
  | nil sz =>
    intro w' g' v' h'
    generalize hx : ([] : List AV) = xs at h'
    cases h' with
    | nil => exact .nil sz
    | empty _ a c hc => exact .empty sz a c hc
    | sl vs hc hm hsz hu hr hs => subst hx; exact .sl vs hc hm hsz hu hr fun j u hu => by simp [flat] at hu
  | empty sz a c hc =>
    intro w' g' v' h'
    generalize hx : ([] : List AV) = xs at h'
    cases h' with
    | nil => exact .nil sz
    | empty _ a' c' hc' => exact .empty sz a' c' hc'
    | sl vs hc hm hsz hu hr hs => subst hx; exact .sl vs hc hm hsz hu hr fun j u hu => by simp [flat] at hu
  | sl vs hc hm hsz hu hr hs ih =>
    intro w' g' v' h'
    cases h' with
    | nil => exact .nil _
    | empty _ a' c' hc' => exact .empty _ a' c' hc'
    | sl vs hc hm hsz hu hr hs' => exact .sl vs hc hm hsz hu hr fun j u hj => ih j u hj (hs' j u hj)
  | agg hl h1 hs ih => intro w' g' v' h'; cases h' with | agg hl h1 hs' => exact .agg hl h1 fun j u hj => ih j u hj (hs' j u hj)
  | tup hl hs ih => intro w' g' v' h'; cases h' with | tup hl hs' => exact .tup hl fun j u hj => ih j u hj (hs' j u hj)
  | eptr vs hr hs ih => intro w' g' v' h'; cases h' with | eptr vs hr hs' => exact .eptr vs hr fun j u hj => ih j u hj (hs' j u hj)
  | ptr id off h => intro w' g' v' h'; cases h' with | ptr => exact .ptr id off h
  | mp id h => intro w' g' v' h'; cases h' with | mp => exact .mp id h
  | clo hl hs ih => intro w' g' v' h'; cases h' with | clo hl hs' => exact .clo hl fun j u hj => ih j u hj (hs' j u hj)
  | osl id off n c h hc hm => intro w' g' v' h'; cases h' with | osl => exact .osl id off n c h hc hm
  | any v => intro w' g' v' h'; exact .any _

theorem OwnRep.drop {w w' : World} {g g' : Gh} {B e sz : Nat} {m : Bool} {xs : List AV} {v v' : Value} (h : OwnRep w g B m e sz xs v) (h' : OwnRep w' g' B m e sz xs v') : OwnRep w' { g' with n := g.n } B m e sz xs v' := by
  obtain ⟨-, -, vs0, -, -, h5, -⟩ := h
  obtain ⟨k1, k2, vs, k3, k4, k5, k6⟩ := h'
  exact ⟨k1, k2, vs, k3, k4, fun j u hu => (h5 j u hu).drop (k5 j u hu), k6⟩
theorem RowAt.drop {w w' : World} {g g' : Gh} {cs : List AV} {b b' : Nat} (h : RowAt w g cs b) (h' : RowAt w' g' cs b') : RowAt w' { g' with n := g.n } cs b' := by
  obtain ⟨vs0, e0, -, -, -, -, h5⟩ := h
  obtain ⟨vs, e, k1, k2, k3, k4, k5⟩ := h'
  exact ⟨vs, e, k1, k2, k3, k4, fun j u hu => (h5 j u hu).drop (k5 j u hu)⟩

theorem slotRep.drop {w w' : World} {g g' : Gh} {B : Nat} {tm : Nat → Value} {x : AV} {v : Value} (h : slotRep w g B tm x v) (h' : slotRep w' g' B tm x v) : slotRep w' { g' with n := g.n } B tm x v := by
  cases x with
  | own m e sz xs => exact OwnRep.drop h h'
  | box cs =>
    obtain ⟨b0, -, -, h3⟩ := h
    obtain ⟨b, k1, k2, k3⟩ := h'
    exact ⟨b, k1, k2, h3.drop k3⟩
  | iter id since seen c0 =>
    obtain ⟨b0, -, -, -, -, h5, -⟩ := h
    obtain ⟨b, k1, k2, k3, k4, k5, k6⟩ := h'
    exact ⟨b, k1, k2, k3, k4, h5, k6⟩
  | alias k => exact h'
  | part k i => exact h'
  | otup i m e sz xs rest =>
    obtain ⟨us0, hv0, -, h2, h3⟩ := h
    obtain ⟨us, hv, k1, k2, k3⟩ := h'
    exact ⟨us, hv, k1, fun j u hu => (h2 j u hu).drop (k2 j u hu), h3.drop k3⟩
  | place k o => exact h'
  | elt k sz i o => exact h'
  | _ => exact Rep.drop h h'

theorem ObjRep.drop {w w' : World} {g g' : Gh} {o : AObj} {b b' : Nat} (h : ObjRep w g o b) (h' : ObjRep w' g' o b') : ObjRep w' { g' with n := g.n } o b' := by
  cases o with
  | cells cs => exact RowAt.drop h h'
  | row e m cs =>
    obtain ⟨vs0, -, -, -, -, -, h5⟩ := h
    obtain ⟨vs, k1, k2, k3, k4, k5, k6⟩ := h'
    exact ⟨vs, k1, k2, k3, k4, k5, fun j u hu => (h5 j u hu).drop (k6 j u hu)⟩
  | map es clock =>
    obtain ⟨-, en0, -, -, h3⟩ := h
    obtain ⟨k0, en, k1, k2, k3⟩ := h'
    refine ⟨k0, en, k1, k2, fun j u hu => ?_⟩
    obtain ⟨q0, -, -, -, -, p5⟩ := h3 j u hu
    obtain ⟨q, q1, q2, q3, q4, q5⟩ := k3 j u hu
    exact ⟨q, q1, q2, q3, q4, p5.drop q5⟩

section
variable {P : Program} {H : Hst} {w0 w w' : World} {g0 g g' : Gh} {s : Slots} {h h' : Heap} {a : Act} {o : Oper} {K : AV → Slots → Heap → Prop} {Q : Exit → Act → World → Prop}

/-- A slot holds a value for itself again. -/
theorem R.regain (r : R H w0 g0 s h g a w) {k : Nat} {x : AV} (hx : slotRep w g w0.heap.size (tmOf a) x (tmOf a k)) (hp : ∀ b, privB x (tmOf a k) = some b → (∀ i, i ≠ k → privB (s i) (tmOf a i) ≠ some b) ∧ ∀ j, j < g.n → g.loc j ≠ b) :
    R H w0 g0 (Vm.set s k x) h g a w := by
  have hpr : ∀ i, privB (Vm.set s k x i) (tmOf a i) = if i = k then privB x (tmOf a k) else privB (s i) (tmOf a i) := fun i => by
    unfold Vm.set; split
    · rename_i e; subst e; rfl
    · rfl
  refine ⟨r.defers, fun i => ?_, fun i j b hi hj => ?_, fun i b hi => ?_, r.heap, r.frame, r.n0, r.loc0, r.old, r.loc1, r.fresh, r.laid, r.kept⟩
  · by_cases hi : i = k
    · subst hi; simp only [Vm.set, if_true]; exact hx
    · simp only [Vm.set, hi, if_false]; exact r.slots i
  · have hi' : privB (Vm.set s k x i) (tmOf a i) = some b := hi
    have hj' : privB (Vm.set s k x j) (tmOf a j) = some b := hj
    rw [hpr] at hi' hj'
    by_cases e : i = k <;> by_cases e' : j = k
    · omega
    · rw [if_pos e] at hi'; rw [if_neg e'] at hj'; exact absurd hj' ((hp b hi').1 j e')
    · rw [if_neg e] at hi'; rw [if_pos e'] at hj'; exact absurd hi' ((hp b hj').1 i e)
    · rw [if_neg e] at hi'; rw [if_neg e'] at hj'; exact r.apart i j b hi' hj'
  · have hi' : privB (Vm.set s k x i) (tmOf a i) = some b := hi
    rw [hpr] at hi'
    by_cases e : i = k
    · rw [if_pos e] at hi'; exact (hp b hi').2
    · rw [if_neg e] at hi'; exact r.sep i b hi'

def gAdd (g : Gh) (b : Nat) : Gh := { g with n := g.n + 1, loc := fun i => if i = g.n then b else g.loc i }

/-- A row that nobody holds becomes an object. -/
theorem R.addRow (r : R H w0 g0 s h g a w) {b e m : Nat} {cs : List AV} (hrow : RowE w g e m cs b) (hB : w0.heap.size ≤ b) (hlt : b < w.heap.size) (h1 : ∀ i, privB (s i) (tmOf a i) ≠ some b) (h2 : ∀ k, k < g.n → g.loc k ≠ b) :
    R H w0 g0 s (h ++ [.row e m cs]) (gAdd g b) a w ∧ Keeps w g w (gAdd g b) := by
  have hn := r.heap.n
  have hk : Keeps w g w (gAdd g b) := ⟨fun _ => Nat.le_refl _, fun _ _ _ _ h => h, Nat.le_succ _, fun i hi => by simp only [gAdd]; rw [if_neg (by omega)]⟩
  refine ⟨⟨r.defers, fun i => (r.slots i).keepAt hk fun b' _ => ⟨rfl, rfl⟩, r.apart, fun i b' hi k hk' => ?_, ?_, r.frame, Nat.le_trans r.n0 (Nat.le_succ _), fun i hi => ?_, r.old, fun i hi h0 => ?_, r.fresh, fun i cs hi => (r.laid i cs hi).keep hk, r.kept.trans hk⟩, hk⟩
  · simp only [gAdd] at hk' ⊢
    split
    · intro e; exact h1 i (e ▸ hi)
    · exact r.sep i b' hi k (by omega)
  · refine ⟨by simp [gAdd, hn], fun i hi => ?_, fun i j hi hj e => ?_, fun i o' ho => ?_⟩
    · simp only [gAdd] at hi ⊢
      split
      · exact hlt
      · exact r.heap.lt i (by omega)
    · simp only [gAdd] at hi hj e
      split at e <;> split at e
      · omega
      · exact absurd e.symm (h2 j (by omega))
      · exact absurd e (h2 i (by omega))
      · exact r.heap.inj i j (by omega) (by omega) e
    · simp only [gAdd]
      rcases Nat.lt_or_ge i h.length with hi | hi
      · rw [List.getElem?_append_left hi] at ho
        rw [if_neg (by omega)]
        exact (r.heap.obj i o' ho).keepAt hk ⟨rfl, rfl⟩
      · rw [List.getElem?_append_right hi] at ho
        have : i - h.length = 0 := by
          rcases Nat.eq_zero_or_pos (i - h.length) with h' | h'
          · exact h'
          · rw [List.getElem?_eq_none (by simp; omega)] at ho; cases ho
        rw [this] at ho
        simp only [List.getElem?_cons_zero, Option.some.injEq] at ho
        subst ho
        rw [if_pos (by omega)]
        obtain ⟨vs, a1, a2, a3, a4, a5, a6⟩ := hrow
        exact ⟨vs, a1, a2, a3, a4, a5, fun j u hu => (a6 j u hu).keep hk⟩
  · simp only [gAdd]; rw [if_neg (by have := r.n0; omega)]; exact r.loc0 i hi
  · simp only [gAdd] at hi ⊢
    split
    · exact hB
    · exact r.loc1 i (by omega) h0

/-- The last object is none any more. -/
theorem R.dropRow {w1 : World} {g1 : Gh} {h1 : Heap} {x : AObj} (r0 : R H w0 g0 s h g a w) (r : R H w0 g0 s (h ++ [x]) g' a w') (hk : Keeps w g w' g') : R H w0 g0 s h { g' with n := g.n } a w' := by
  have hn := r0.heap.n
  have hn' := r.heap.n
  rw [List.length_append] at hn'
  simp only [List.length_cons, List.length_nil] at hn'
  have hkeep : Keeps H.w H.g w' { g' with n := g.n } := ⟨r.kept.pub, r.kept.cell, r0.kept.n, fun i hi => r.kept.loc i hi⟩
  refine ⟨r.defers, fun i => (r0.slots i).drop (r.slots i), r.apart, fun i b hi k hk' => r.sep i b hi k (by simp only [] at hk'; omega), ?_, r.frame, r0.n0, r.loc0, r.old, fun i hi h0 => r.loc1 i (by simp only [] at hi; omega) h0, r.fresh, fun i cs hi => (r0.laid i cs hi).drop (r.laid i cs hi), hkeep⟩
  refine ⟨hn, fun i hi => r.heap.lt i (by simp only [] at hi; omega), fun i j hi hj e => r.heap.inj i j (by simp only [] at hi; omega) (by simp only [] at hj; omega) e, fun i o ho => ?_⟩
  have hi : i < h.length := by
    rcases Nat.lt_or_ge i h.length with h' | h'
    · exact h'
    · rw [List.getElem?_eq_none h'] at ho; cases ho
  exact (r0.heap.obj i o ho).drop (r.heap.obj i o (by rw [List.getElem?_append_left hi]; exact ho))

theorem ownSlot_spec {s2 : Slots} {h2 : Heap} {g1 : Gh} (r : R H w0 g0 s2 h2 g1 a w) {x : Operand} {k : Nat} (hk : ownSlot s2 x = some k) : a.eval x = tmOf a k := by
  unfold ownSlot at hk
  split at hk
  · rename_i t
    split at hk
    · cases hk; rfl
    · rename_i k' he
      cases hk
      have := r.slots t
      rw [he] at this
      exact this
    · cases hk
  · cases hk

theorem sound_callI {N : Nat} {T : FuncId → Option Spec} {f : FuncId} {caps : List AV} {x : Operand} {os : Array Operand} {ts : Array TypeId} (hT : ∀ f S, T f = some S → Does P f S)
    (ho : o.op = .call { callee := .value x, args := os, argTypes := ts }) (r : R H w0 g0 s h g a w) (hN : a.tmps.size = N) (hd : ∀ d, o.dst = some d → d < N)
    (hf : ev s x = .clo f caps) (hK : awpCallI T f caps os.toList s h K) : o.wp P a w (Aft N H w0 g0 o K) Q := by
  have hx := r.eval x
  rw [hf] at hx
  have hx' : Rep w g (.clo f caps) (a.eval x) := hx
  generalize hv : a.eval x = v at hx'
  cases hx' with
  | @clo _ _ cv hcl hcs =>
  unfold awpCallI at hK
  split at hK
  · rename_i S o0 rest hS hos
    have hcv : cv = #[] := Array.eq_empty_of_size_eq_zero (by simpa using hcl)
    subst hcv
    obtain ⟨⟨fn, hf1, hf2, hf3⟩, hdo⟩ := hT f S hS
    obtain ⟨g1, r1, k1, l1, p1⟩ := R.escs rest r
    generalize hE : Vm.escs s h rest = E at r1 l1 p1 hK
    obtain ⟨as, s2, h2⟩ := E
    simp only at r1 l1 p1 hK
    obtain ⟨htk, hsep⟩ := r1.tk o0
    have r3 := r1.le (le_tk s2 o0)
    unfold inCall at hK
    split at hK
    · rename_i e sz xs k0 hown hk0
      have hko := ownSlot_spec r1 hk0
      rw [hown] at htk hsep
      generalize hs3 : (Vm.tk s2 o0).2 = s3 at r3 hsep hK
      obtain ⟨hsz, hu, vs, hrow, h4, h5, h6⟩ := htk
      obtain ⟨hKn, hKb⟩ := hK
      have hargs : ((o0 :: rest).map a.eval).toArray ++ (#[] : Array Value) = ((o0 :: rest).map a.eval).toArray := by simp
      have hrun : (execOp a.eval o).run P w = .ok (.enter f ((o0 :: rest).map a.eval).toArray) w := by
        have hA : os.map a.eval = ((o0 :: rest).map a.eval).toArray := by apply Array.ext'; simp [hos]
        simp only [execOp, ho, resolve, Sem.run_bind, hA, hv, Deferred.ofValue]
        simp [invoke, run_callFunc hf1 hf2 hf3]
      unfold Oper.wp
      rw [hrun, Oper.upon]
      have hget : ∀ (y : AV) (g2 : Gh) (w2 : World), Rep w2 g2 y (a.eval o0) → (∀ j u, as[j]? = some u → Rep w2 g2 u ((rest.map a.eval).getD j undef)) → ∀ j u, (y :: as)[j]? = some u → Rep w2 g2 u (((o0 :: rest).map a.eval).toArray.getD j undef) := fun y g2 w2 h0 h1 j u hu => by
        cases j with
        | zero => simp only [List.getElem?_cons_zero, Option.some.injEq] at hu; subst hu; simpa using h0
        | succ j =>
          simp only [List.getElem?_cons_succ] at hu
          have := h1 j u hu
          simpa [Array.getD_eq_getD_getElem?, List.getD_eq_getElem?_getD] using this
      rcases hrow.2 with ⟨hnil, hx0⟩ | ⟨gb, cap, cur, hsl, b1, b2, b3, b4, b5, b6⟩
      · -- nil
        have hx0' : xs = [] := List.eq_nil_of_length_eq_zero hx0
        subst hx0'
        obtain ⟨Q0, hS0, hQ⟩ := hKn rfl
        refine (hdo _ _ Q0 hS0 w g1 ((o0 :: rest).map a.eval).toArray (by simp [l1]) (hget _ _ _ (by rw [hnil]; exact .v rfl) p1) r3.heap r3.fresh r3.laid).mono ?_
        rintro e' w' ⟨y, h', g', v', hq, rfl, hy, hh, hfr, hn, hl, hp, hl1, hfresh⟩
        obtain ⟨rfl, hin⟩ := hQ y h' hq
        have r4 := r3.called hfr hh hn hl hp hl1 hfresh
        have hnilOwn : ∀ v, v = Value.slice none 0 0 → OwnRep w' g' w0.heap.size true e sz [] v := fun v hv => by
          subst hv
          exact ⟨hsz, by simp, [], World.ownsRow_nil w' _ e sz, by simp, by simp [flat], fun b hb => by simp [Value.ownBlock] at hb⟩
        unfold inNil at hin
        split at hin
        · have hv' : v' = .slice none 0 0 := (rep_v hy).1
          refine ⟨_, _, _, g', hin, ?_, by rw [size_put]; exact hN⟩
          cases hdst : o.dst with
          | none => exact r4
          | some d => exact r4.put (by rw [hN]; exact hd d hdst) (hnilOwn v' hv') fun b hb => by rw [hv'] at hb; simp [privB, Value.ownBlock] at hb
        · refine ⟨_, _, _, g', hin, ?_, by rw [size_put]; exact hN⟩
          have r5 := r4.regain (k := k0) (x := .own true e sz []) (hnilOwn _ (hko.symm.trans hnil)) (fun b hb => by rw [← hko, hnil] at hb; simp [privB, Value.ownBlock] at hb)
          cases hdst : o.dst with
          | none => exact r5
          | some d => exact r5.put_rep (by rw [hN]; exact hd d hdst) hy
        · exact hin.elim
      · -- a block
        have hpriv : ∀ b, privB (.own true e sz xs) (a.eval o0) = some b → b = gb := fun b hb => by
          rw [hsl] at hb; simpa [privB, Value.ownBlock] using hb.symm
        have hpg : privB (.own true e sz xs) (a.eval o0) = some gb := by rw [hsl]; rfl
        obtain ⟨q1, q2⟩ := hsep gb hpg
        have hlt : gb < w.heap.size := lt_of_heap b2
        have hpub : g1.pub gb = 0 := by have := h6 gb (by rw [hsl]; rfl); simpa using this
        have hfl := flat_length hu
        have hrowE : RowE w g1 e (cap * sz) (flat xs) gb := by
          have hgd : ∀ j, j < (flat xs).length → cur.getD j undef = vs.getD j undef := fun j hj => by
            have hl := hrow.1
            have hj2 : j < vs.length := by omega
            have e1 : vs[j]? = cur.toList[j]? := by
              rw [← b6, List.getElem?_take]; rw [if_pos (by omega)]
            have e2 : cur.getD j undef = (cur.toList[j]?).getD undef := by simp [Array.getD_eq_getD_getElem?]
            rw [e2, ← e1, List.getD_eq_getElem?_getD]
          refine ⟨cur, b2, b5, ?_, hpub, fun j hj => ?_, fun j u hj => ?_⟩
          · rw [hfl]; exact Nat.mul_le_mul_right _ b3
          · rw [hgd j hj]
            have hj2 : j < vs.length := by have := hrow.1; omega
            rw [List.getD_eq_getElem?_getD, List.getElem?_eq_getElem hj2]
            exact h4 _ (List.getElem_mem _)
          · have hj2 : j < (flat xs).length := by
              rcases Nat.lt_or_ge j (flat xs).length with h' | h'
              · exact h'
              · rw [List.getElem?_eq_none h'] at hj; cases hj
            rw [hgd j hj2]
            exact h5 j u hj
        obtain ⟨rN, kN⟩ := r3.addRow hrowE b1 hlt q1 q2
        obtain ⟨Q0, hS0, hQ⟩ := hKb cap b3 b4
        have hosl : Rep w (gAdd g1 gb) (.osl h2.length 0 xs.length cap) (a.eval o0) := by
          have := Rep.osl (w := w) (g := gAdd g1 gb) h2.length 0 xs.length cap (by simp only [gAdd]; have := r3.heap.n; omega) b3 b4
          rw [hsl]
          have hl : (gAdd g1 gb).loc h2.length = gb := by simp only [gAdd]; rw [if_pos r3.heap.n]
          rw [hl] at this
          exact this
        refine (hdo _ _ Q0 hS0 w (gAdd g1 gb) ((o0 :: rest).map a.eval).toArray (by simp [l1]) (hget _ _ _ hosl fun j u hu => (p1 j u hu).keep kN) rN.heap rN.fresh rN.laid).mono ?_
        rintro e' w' ⟨y, h', g', v', hq, rfl, hy, hh, hfr, hn, hl, hp, hl1, hfresh⟩
        obtain ⟨cs, rfl, xs', hsub, hin⟩ := hQ y h' hq
        have rC := rN.called hfr hh hn hl hp hl1 hfresh
        have kC := hfr.keeps rN.heap rN.fresh hn hl hp
        have r4 := R.dropRow (w1 := w) (g1 := g1) (h1 := h2) r3 rC (kN.trans kC)
        have hm : h2.length < (gAdd g1 gb).n := by simp only [gAdd]; have := r3.heap.n; omega
        have hloc : g'.loc h2.length = gb := by
          rw [hl _ hm]; simp only [gAdd]; rw [if_pos r3.heap.n]
        have hob : RowE w' g' e (cap * sz) cs gb := by
          have : ObjRep w' g' (.row e (cap * sz) cs) (g'.loc h2.length) := hh.obj h2.length _ (by rw [List.getElem?_append_right (Nat.le_refl _)]; simp)
          rw [hloc] at this; exact this
        -- what is held again
        have back : ∀ n, n ≤ cap → xs'.length = n → cs.take (n * sz) = flat xs' → OwnRep w' { g' with n := g1.n } w0.heap.size true e sz xs' (.slice (some ⟨gb, 0, none⟩) n cap) := fun n hnc hxl hcs => by
          obtain ⟨cur', c1, c2, c3, c4, c5, c6⟩ := hob
          have hu' : ∀ x ∈ xs', x.cells.length = sz := fun x hx => hu x (hsub x hx)
          have hfl' : (flat xs').length = n * sz := by rw [flat_length hu', hxl]
          have hle : n * sz ≤ cs.length := by
            have : (cs.take (n * sz)).length = n * sz := by rw [hcs, hfl']
            rw [List.length_take] at this; omega
          have hcl2 : (cur'.toList.take (n * sz)).length = n * sz := by rw [List.length_take]; simp; omega
          refine ⟨hsz, hu', cur'.toList.take (n * sz), ?_, fun u hu2 => ?_, fun j u hj => ?_, fun b hb => ?_⟩
          · rw [hxl]
            exact ⟨hcl2, .inr ⟨gb, cap, cur', rfl, b1, c1, hnc, b4, c2, rfl⟩⟩
          · obtain ⟨j, hj, rfl⟩ := List.getElem_of_mem hu2
            have hj' : j < n * sz := by omega
            have := c5 j (by omega)
            rw [List.getElem_take]
            simpa [Array.getD, show j < cur'.size by omega] using this
          · have hj' : j < n * sz := by
              rw [← hfl']
              rcases Nat.lt_or_ge j (flat xs').length with h' | h'
              · exact h'
              · rw [List.getElem?_eq_none h'] at hj; cases hj
            have hcj : cs[j]? = some u := by
              rw [← hcs, List.getElem?_take, if_pos hj'] at hj; exact hj
            have e1 : (cur'.toList.take (n * sz)).getD j undef = cur'.getD j undef := by
              rw [List.getD_eq_getElem?_getD, List.getElem?_take, if_pos hj']; simp [Array.getD_eq_getD_getElem?]
            rw [e1]
            -- the element was there before
            have hmem : ∃ i : Nat, (flat xs)[i]? = some u := by
              have hu2 : u ∈ flat xs' := List.mem_of_getElem? hj
              simp only [flat, List.mem_flatMap] at hu2
              obtain ⟨x, hx, hux⟩ := hu2
              have : u ∈ flat xs := by simp only [flat, List.mem_flatMap]; exact ⟨x, hsub x hx, hux⟩
              exact List.mem_iff_getElem?.1 this
            obtain ⟨i, hi⟩ := hmem
            exact (h5 i u hi).drop (c6 j u hcj)
          · simp only [Value.ownBlock, Option.some.injEq] at hb
            subst hb
            show g'.pub gb ≤ _
            rw [c4]; exact Nat.zero_le _
        have hsepd : ∀ k, k < ({ g' with n := g1.n } : Gh).n → ({ g' with n := g1.n } : Gh).loc k ≠ gb := fun k hk => by
          show g'.loc k ≠ gb
          have hk' : k < g1.n := hk
          rw [hl k (by simp only [gAdd]; omega)]
          simp only [gAdd]; rw [if_neg (by omega)]; exact q2 k hk'
        split at hin
        · rename_i i off n c'
          obtain ⟨rfl, rfl, rfl, hxl, hcs, hk⟩ := hin
          have hy' : Rep w' g' (.osl h2.length 0 n c') v' := hy
          have hv' : v' = .slice (some ⟨gb, 0, none⟩) n c' ∧ n ≤ c' := by
            cases hy' with | osl _ _ _ _ _ hc _ => rw [hloc]; exact ⟨rfl, hc⟩
          obtain ⟨hv', hnc⟩ := hv'
          refine ⟨_, _, _, { g' with n := g1.n }, hk, ?_, by rw [size_put]; exact hN⟩
          cases hdst : o.dst with
          | none => exact r4
          | some d =>
            refine r4.put (by rw [hN]; exact hd d hdst) (x := .own true e sz xs') (by rw [hv']; exact back n hnc hxl hcs) fun b hb => ?_
            have hbg : b = gb := by rw [hv'] at hb; simpa [privB, Value.ownBlock] using hb.symm
            subst hbg
            exact ⟨fun i _ => q1 i, hsepd⟩
        · obtain ⟨hxl, hcs, hk⟩ := hin
          refine ⟨_, _, _, { g' with n := g1.n }, hk, ?_, by rw [size_put]; exact hN⟩
          have hkv : tmOf a k0 = .slice (some ⟨gb, 0, none⟩) xs.length cap := hko.symm.trans hsl
          have r5 := r4.regain (k := k0) (x := .own true e sz xs') (by rw [hkv]; exact back xs.length b3 hxl hcs) (fun b hb => by
            have hbg : b = gb := by rw [hkv] at hb; simpa [privB, Value.ownBlock] using hb.symm
            subst hbg
            exact ⟨fun i _ => q1 i, hsepd⟩)
          cases hdst : o.dst with
          | none => exact r5
          | some d =>
            have hy' : Rep w' g' (.tup []) v' := hy
            exact r5.put_rep (by rw [hN]; exact hd d hdst) (by cases hy' with | tup hl2 hs2 => exact .tup hl2 fun j u hu => by simp at hu)
        · exact hin.elim
    · exact hK.elim
  · exact hK.elim

theorem sound_callV {N : Nat} {T : FuncId → Option Spec} {x : Operand} {os : Array Operand} {ts : Array TypeId} (hT : ∀ f S, T f = some S → Does P f S)
    (ho : o.op = .call { callee := .value x, args := os, argTypes := ts }) (r : R H w0 g0 s h g a w) (hN : a.tmps.size = N) (hd : ∀ d, o.dst = some d → d < N)
    (hK : awpCallV T (ev s x) os.toList s h K) : o.wp P a w (Aft N H w0 g0 o K) Q := by
  unfold awpCallV at hK
  split at hK
  · rename_i f caps hf
    rcases hK with hK | hK
    · exact sound_call hT ho r hN hd hf hK
    · exact sound_callI hT ho r hN hd hf hK
  · exact hK.elim

end
end Go.Vm
