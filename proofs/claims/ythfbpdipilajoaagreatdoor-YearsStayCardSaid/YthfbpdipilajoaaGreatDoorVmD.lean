/- Forgetting, moving, and handing on for good: the frame's relation under them. -/
import Derived.Test.YthfbpdipilajoaaGreatDoorVmC
set_option linter.unusedVariables false
set_option linter.unusedSimpArgs false
namespace Go.Vm
open Go.RowKit

theorem fg_slot {w : World} {g : Gh} {B : Nat} {tm : Nat → Value} {x y : AV} {v : Value} (f : Fg x y) (h : slotRep w g B tm x v) : slotRep w g B tm y v := by
  cases f with
  | refl => exact h
  | any => exact .any v
  | nil m e sz hsz =>
    cases h with
    | v hp =>
      refine ⟨hsz, by simp, [], World.ownsRow_nil w B e sz, by simp, by simp [flat], ?_⟩
      intro b hb; simp [Value.ownBlock] at hb
  | part i m e sz xs rest =>
    obtain ⟨us, rfl, h1, h2, -⟩ := h
    exact Rep.tup h1 h2
  | shut e sz xs =>
    obtain ⟨h1, h2, vs, h3, h4, h5, h6⟩ := h
    exact ⟨h1, h2, vs, h3, h4, h5, fun b hb => Nat.le_trans (h6 b hb) (Nat.zero_le _)⟩
  | nils sz =>
    cases h with
    | v hp => exact .nil sz

theorem fg_priv {w : World} {g : Gh} {B : Nat} {tm : Nat → Value} {x y : AV} {v : Value} {b : Nat} (f : Fg x y) (h : slotRep w g B tm x v) (hb : privB y v = some b) : privB x v = some b := by
  cases f with
  | refl => exact hb
  | any => simp [privB] at hb
  | nil m e sz hsz =>
    cases h with
    | v hp => simp [privB, Value.ownBlock] at hb
  | part i m e sz xs rest => simp [privB] at hb
  | shut e sz xs => exact hb
  | nils sz => simp [privB] at hb

theorem R.le {H : Hst} {w0 w : World} {g0 g : Gh} {s s1 : Slots} {h : Heap} {a : Act} (r : R H w0 g0 s h g a w) (l : Le s s1) : R H w0 g0 s1 h g a w :=
  ⟨r.defers, fun i => fg_slot (l i) (r.slots i), fun i j b hi hj => r.apart i j b (fg_priv (l i) (r.slots i) hi) (fg_priv (l j) (r.slots j) hj),
    fun i b hi => r.sep i b (fg_priv (l i) (r.slots i) hi), r.heap, r.frame, r.n0, r.loc0, r.old, r.loc1, r.fresh, r.laid, r.kept⟩

theorem le_set_any (s : Slots) (t : Nat) : Le s (set s t .any) := fun i => by
  unfold set; split
  · exact .any _
  · exact .refl _
theorem fg_killed (d : Nat) (x : AV) : Fg x (killed d x) := by
  cases x <;> simp only [killed] <;> (try split) <;> first | exact .refl _ | exact .any _
theorem le_put_any (s : Slots) (t : Nat) : Le s (put s t .any) := fun i => by
  unfold put; split
  · exact .any _
  · exact fg_killed _ _

theorem le_put_fg (s : Slots) (t : Nat) (x : AV) (hx : Fg (s t) x) (hk : killed t x = x) : Le s (put s t x) := fun i => by
  unfold put; split
  · rename_i hi; subst hi; rw [hk]; exact hx
  · exact fg_killed _ _

theorem le_tk (s : Slots) (o : Operand) : Le s (tk s o).2 := by
  unfold tk
  split
  · split
    · exact le_set_any _ _
    · unfold tkAl; split
      · exact le_put_any _ _
      · exact fun i => .refl _
    · unfold tkPart; split
      · split
        · rename_i hk hi; exact le_put_fg _ _ _ (by rw [hk]; exact .part ..) rfl
        · exact fun i => .refl _
      · exact fun i => .refl _
    · exact fun i => .refl _
    · exact fun i => .refl _
    · exact fun i => .refl _
    · exact fun i => .refl _
  · exact fun i => .refl _

theorem privB_killed_none {d i : Nat} {s : Slots} {tm : Nat → Value} (h : i = d) : privB (put s d .any i) (tm i) = none := by
  subst h; simp [put, killed, privB]

/-- What a variable takes is represented, and nobody else holds it any more. -/
theorem R.tk {H : Hst} {w0 w : World} {g0 g : Gh} {s : Slots} {h : Heap} {a : Act} (r : R H w0 g0 s h g a w) (o : Operand) :
    slotRep w g w0.heap.size (tmOf a) (tk s o).1 (a.eval o) ∧
      ∀ b, privB (tk s o).1 (a.eval o) = some b → (∀ i, privB ((tk s o).2 i) (tmOf a i) ≠ some b) ∧ ∀ k, k < g.n → g.loc k ≠ b := by
  have hv := r.eval_val o
  unfold Vm.tk
  split
  · rename_i t
    have hs := r.slots t
    split
    · rename_i m e sz xs he
      rw [he] at hs
      refine ⟨hs, fun b hb => ⟨fun i hi => ?_, fun k hk => ?_⟩⟩
      · by_cases hit : i = t
        · subst hit; simp [set, privB] at hi
        · simp only [set, hit, if_false] at hi
          exact hit (r.apart i t b hi (by rw [he]; exact hb))
      · exact r.sep t b (by rw [he]; exact hb) k hk
    · rename_i k he
      rw [he] at hs
      have hsk := r.slots k
      unfold tkAl
      split
      · rename_i m e sz xs hek
        rw [hek] at hsk
        have hev : a.eval (.tmp t) = tmOf a k := hs
        refine ⟨?_, fun b hb => ⟨fun i hi => ?_, fun j hj => ?_⟩⟩
        · rw [hev]; exact hsk
        · by_cases hik : i = k
          · rw [privB_killed_none hik] at hi; cases hi
          · simp only [Vm.put, hik, if_false, privB_killed] at hi
            exact hik (r.apart i k b hi (by rw [hek]; rw [hev] at hb; exact hb))
        · exact r.sep k b (by rw [hek]; rw [hev] at hb; exact hb) j hj
      · exact ⟨.any _, fun b hb => by simp [privB] at hb⟩
    · rename_i k j he
      rw [he] at hs
      have hsk := r.slots k
      unfold tkPart
      split
      · rename_i i' m e sz xs rest hek
        split
        · rename_i hij
          subst hij
          rw [hek] at hsk
          obtain ⟨us, hus, -, -, hown⟩ := hsk
          obtain ⟨us', hus', hv'⟩ := hs
          have : us' = us := by
            have h1 : a.tmps.getD k undef = .tuple us' := hus'
            rw [hus] at h1; cases h1; rfl
          subst this
          have hev : a.eval (.tmp t) = us'.getD i' undef := hv'
          have hpk : ∀ b, (us'.getD i' undef).ownBlock = some b → privB (s k) (tmOf a k) = some b := fun b hb => by
            rw [hek]
            show privB (.otup i' m e sz xs rest) (a.tmps.getD k undef) = some b
            rw [hus]; exact hb
          refine ⟨?_, fun b hb => ⟨fun i hi => ?_, fun j hj => ?_⟩⟩
          · rw [hev]; exact hown
          · rw [hev] at hb
            by_cases hik : i = k
            · subst hik; simp [Vm.put, killed, privB] at hi
            · simp only [Vm.put, hik, if_false, privB_killed] at hi
              exact hik (r.apart i k b hi (hpk b hb))
          · rw [hev] at hb
            exact r.sep k b (hpk b hb) j hj
        · exact ⟨.any _, fun b hb => by simp [privB] at hb⟩
      · exact ⟨.any _, fun b hb => by simp [privB] at hb⟩
    · exact ⟨.any _, fun b hb => by simp [privB] at hb⟩
    · rename_i cs he
      rw [he] at hs
      obtain ⟨b, hb, -⟩ := hs
      exact ⟨⟨b, hb, hb⟩, fun b hb => by cases hb⟩
    · exact ⟨.any _, fun b hb => by simp [privB] at hb⟩
    · rename_i h1 h2 h2' h2'' h3 h4
      refine ⟨hs, fun b hb => ?_⟩
      exfalso
      cases hx : s t with
      | own m e sz xs => exact h1 m e sz xs hx
      | box cs => exact h3 cs hx
      | iter id since seen c0 => exact h4 id since seen c0 hx
      | otup i m e sz xs rest => exact h2'' i m e sz xs rest hx
      | _ => rw [hx] at hb; simp [privB] at hb
  · exact ⟨slotRep_of_rep (shared_val _) hv, fun b hb => by rw [privB_shared (shared_val _)] at hb; cases hb⟩

def raise (g : Gh) (b n : Nat) : Gh := { g with pub := fun k => if k = b then max (g.pub b) n else g.pub k }

theorem keeps_raise (w : World) (g : Gh) (b n : Nat) : Keeps w g w (raise g b n) :=
  ⟨fun k => by simp only [raise]; split <;> simp_all <;> omega, fun _ _ _ _ h => h, Nat.le_refl _, fun _ _ => rfl⟩

theorem raise_other {g : Gh} {b n k : Nat} (h : k ≠ b) : (raise g b n).pub k = g.pub k := by simp [raise, h]

theorem OwnRep.keepAt {w w' : World} {g g' : Gh} {B e sz : Nat} {m : Bool} {xs : List AV} {v : Value} (hk : Keeps w g w' g') (h : OwnRep w g B m e sz xs v)
    (hb : ∀ b, v.ownBlock = some b → w'.heap[b]? = w.heap[b]? ∧ g'.pub b = g.pub b) : OwnRep w' g' B m e sz xs v := by
  obtain ⟨h1, h2, vs, h3, h4, h5, h6⟩ := h
  refine ⟨h1, h2, vs, ?_, h4, fun j u hu => (h5 j u hu).keep hk, fun b hv => by rw [(hb b hv).2]; exact h6 b hv⟩
  refine ⟨h3.1, h3.2.imp_right ?_⟩
  rintro ⟨gb, cap, cur, rfl, a1, a2, a3⟩
  exact ⟨gb, cap, cur, rfl, a1, by rw [(hb gb rfl).1]; exact a2, a3⟩

theorem RowAt.keepAt {w w' : World} {g g' : Gh} {cs : List AV} {b : Nat} (hk : Keeps w g w' g') (h : RowAt w g cs b)
    (hb : w'.heap[b]? = w.heap[b]? ∧ g'.pub b = g.pub b) : RowAt w' g' cs b := by
  obtain ⟨vs, e, a1, a2, a3, a4, a5⟩ := h
  exact ⟨vs, e, by rw [hb.1]; exact a1, a2, by rw [hb.2]; exact a3, a4, fun j u hu => (a5 j u hu).keep hk⟩

theorem slotRep.keepAt {w w' : World} {g g' : Gh} {B : Nat} {tm : Nat → Value} {x : AV} {v : Value} (hk : Keeps w g w' g') (h : slotRep w g B tm x v)
    (hb : ∀ b, privB x v = some b → w'.heap[b]? = w.heap[b]? ∧ g'.pub b = g.pub b) : slotRep w' g' B tm x v := by
  cases x with
  | own m e sz xs => exact OwnRep.keepAt hk h hb
  | box cs =>
    obtain ⟨b, rfl, hB, hr⟩ := h
    exact ⟨b, rfl, hB, hr.keepAt hk (hb b rfl)⟩
  | iter id since seen c0 =>
    obtain ⟨b, rfl, hB, h1, h2, h3, h4⟩ := h
    refine ⟨b, rfl, hB, ?_, (hb b rfl).2.trans h2, Nat.lt_of_lt_of_le h3 hk.n, h4⟩
    rw [(hb b rfl).1, hk.loc id h3]; exact h1
  | alias k => exact h
  | part k i => exact h
  | otup i m e sz xs rest =>
    obtain ⟨us, rfl, h1, h2, h3⟩ := h
    exact ⟨us, rfl, h1, fun j u hu => (h2 j u hu).keep hk, h3.keepAt hk hb⟩
  | place k o => exact h
  | elt k sz i o => exact h
  | _ => exact Rep.keep hk h

theorem ObjRep.keepAt {w w' : World} {g g' : Gh} {o : AObj} {b : Nat} (hk : Keeps w g w' g') (h : ObjRep w g o b)
    (hb : w'.heap[b]? = w.heap[b]? ∧ g'.pub b = g.pub b) : ObjRep w' g' o b := by
  cases o with
  | cells cs => exact RowAt.keepAt hk h hb
  | row e m cs =>
    obtain ⟨vs, a1, a2, a3, a4, a5, a6⟩ := h
    exact ⟨vs, by rw [hb.1]; exact a1, a2, a3, by rw [hb.2]; exact a4, a5, fun j u hu => (a6 j u hu).keep hk⟩
  | map es clock =>
    obtain ⟨a0, en, a1, a2, a3⟩ := h
    refine ⟨by rw [hb.2]; exact a0, en, by rw [hb.1]; exact a1, a2, fun j u hu => ?_⟩
    obtain ⟨q, q1, q2, q3, q4, q5⟩ := a3 j u hu
    exact ⟨q, q1, q2, q3, q4, q5.keep hk⟩

/-- The world changes, but nothing that the frame holds, nor an object. -/
theorem R.world {H : Hst} {w0 w w' : World} {g0 g g' : Gh} {s : Slots} {h : Heap} {a : Act} (r : R H w0 g0 s h g a w) (hk : Keeps w g w' g') (hn : g'.n = g.n)
    (hpriv : ∀ i b, privB (s i) (tmOf a i) = some b → w'.heap[b]? = w.heap[b]? ∧ g'.pub b = g.pub b)
    (hobj : ∀ i, i < g.n → w'.heap[g.loc i]? = w.heap[g.loc i]? ∧ g'.pub (g.loc i) = g.pub (g.loc i))
    (hf : Frame w0 g0 w') (hsz : w.heap.size ≤ w'.heap.size) (hold : ∀ b, b < w0.heap.size → g'.pub b = g.pub b) (hfr : ∀ b, w'.heap.size ≤ b → g'.pub b = 0) :
    R H w0 g0 s h g' a w' := by
  refine ⟨r.defers, fun i => (r.slots i).keepAt hk (hpriv i), r.apart, fun i b hb k hk' => ?_, ?_, hf, by rw [hn]; exact r.n0, fun i hi => ?_, fun b hb => (hold b hb).trans (r.old b hb), fun i hi h0 => ?_, hfr, fun i cs hi => (r.laid i cs hi).keep hk, r.kept.trans hk⟩
  · rw [hk.loc k (hn ▸ hk')]; exact r.sep i b hb k (hn ▸ hk')
  · refine ⟨by rw [hn]; exact r.heap.n, fun i hi => ?_, fun i j hi hj e => ?_, fun i o ho => ?_⟩
    · rw [hk.loc i (hn ▸ hi)]; exact Nat.lt_of_lt_of_le (r.heap.lt i (hn ▸ hi)) hsz
    · rw [hk.loc i (hn ▸ hi), hk.loc j (hn ▸ hj)] at e; exact r.heap.inj i j (hn ▸ hi) (hn ▸ hj) e
    · have hi : i < g.n := by
        rw [← r.heap.n]
        rcases Nat.lt_or_ge i h.length with h' | h'
        · exact h'
        · simp [List.getElem?_eq_none h'] at ho
      rw [hk.loc i hi]
      exact (r.heap.obj i o ho).keepAt hk (hobj i hi)
  · rw [hk.loc i (Nat.lt_of_lt_of_le hi r.n0)]; exact r.loc0 i hi
  · rw [hk.loc i (hn ▸ hi)]; exact r.loc1 i (hn ▸ hi) h0

theorem flat_length {xs : List AV} {sz : Nat} (h : ∀ x ∈ xs, x.cells.length = sz) : (flat xs).length = xs.length * sz := by
  induction xs with
  | nil => simp [flat]
  | cons x xs ih =>
    simp only [flat, List.flatMap_cons, List.length_append, List.length_cons] at ih ⊢
    rw [ih fun y hy => h y (List.mem_cons_of_mem _ hy), h x (List.mem_cons_self ..), Nat.add_mul]
    omega

theorem ownsRow_cell {w : World} {B e sz : Nat} {v : Value} {n : Nat} {vs : List Value} {b c k : Nat} (h : w.ownsRow B e sz v n vs) (hv : v = .slice (some ⟨b, 0, none⟩) k c) :
    ∀ j, j < vs.length → w.cell? ⟨b, j, none⟩ = some (vs.getD j undef) := by
  intro j hj
  rcases h.2 with ⟨rfl, -⟩ | ⟨gb, cap, cur, rfl, -, a2, a3, a4, a5, a6⟩
  · cases hv
  · injection hv with h1 h2 h3
    injection h1 with h1
    injection h1 with h1
    subst h1
    rw [cell_of_row w gb j cur e (0, 0) a2]
    have h2 : (cur.toList.take (n * sz))[j]? = some (vs.getD j undef) := by
      rw [a6]; simp [List.getD_eq_getElem?_getD, List.getElem?_eq_getElem hj]
    rw [List.getElem?_take] at h2
    split at h2
    · simpa using h2
    · cases h2

/-- A slice of the call's own, handed on for good. -/
theorem own_publish {H : Hst} {w0 w : World} {g0 g : Gh} {s : Slots} {h : Heap} {a : Act} (r : R H w0 g0 s h g a w) {t : Nat} {m : Bool} {e sz : Nat} {xs : List AV} (he : s t = .own m e sz xs) :
    ∃ g', R H w0 g0 (set s t (.own false e sz xs)) h g' a w ∧ Keeps w g w g' ∧ Rep w g' (.sl sz xs) (tmOf a t) ∧ g'.n = g.n := by
  have hs := r.slots t
  rw [he] at hs
  obtain ⟨h1, h2, vs, h3, h4, h5, h6⟩ := hs
  have hl := h3.1
  rcases h3.2 with ⟨hv, hn⟩ | ⟨gb, cap, cur, hv, a1, a2, a3, a4, a5, a6⟩
  · have hx : xs = [] := List.eq_nil_of_length_eq_zero hn
    subst hx
    refine ⟨g, r.le fun i => ?_, Keeps.refl w g, ?_, rfl⟩
    · unfold set; split
      · rename_i hi; subst hi; rw [he]; cases m
        · exact .refl _
        · exact .shut e sz []
      · exact .refl _
    · show Rep w g (.sl sz []) (a.tmps.getD t undef)
      rw [hv]; exact .nil sz
  · have hb : privB (s t) (tmOf a t) = some gb := by rw [he]; show Value.ownBlock (a.tmps.getD t undef) = _; rw [hv]; rfl
    have hlt : gb < w.heap.size := by
      rcases Nat.lt_or_ge gb w.heap.size with h | h
      · exact h
      · simp [Array.getElem?_eq_none h] at a2
    have hk := keeps_raise w g gb (xs.length * sz)
    have hpub : (raise g gb (xs.length * sz)).pub gb = xs.length * sz := by
      have := h6 gb (by rw [hv]; rfl)
      simp only [raise, if_true]
      cases m <;> simp at this <;> omega
    have hxl := flat_length h2
    have hrest : ∀ i, i ≠ t → ∀ b, privB (s i) (tmOf a i) = some b → w.heap[b]? = w.heap[b]? ∧ (raise g gb (xs.length * sz)).pub b = g.pub b := fun i hi b hb' =>
      ⟨rfl, raise_other fun e => hi (r.apart i t gb (e ▸ hb') hb)⟩
    refine ⟨raise g gb (xs.length * sz), ?_, hk, ?_, rfl⟩
    · refine ⟨r.defers, fun i => ?_, fun i j b hi hj => ?_, fun i b hi => ?_, ?_, r.frame, r.n0, r.loc0, fun b hb' => ?_, r.loc1, fun b hb' => ?_, fun i cs hi => (r.laid i cs hi).keep hk, r.kept.trans hk⟩
      · by_cases hi : i = t
        · subst hi
          simp only [set, if_true]
          refine ⟨h1, h2, vs, h3, h4, fun j u hu => (h5 j u hu).keep hk, fun b hb' => ?_⟩
          rw [hv] at hb'; simp only [Value.ownBlock, Option.some.injEq] at hb'; subst hb'
          simp only [Bool.false_eq_true, if_false]; omega
        · simp only [set, hi, if_false]
          exact (r.slots i).keepAt hk (hrest i hi)
      · have e1 : ∀ i, privB (set s t (.own false e sz xs) i) (a.tmps.getD i undef) = privB (s i) (a.tmps.getD i undef) := by
          intro i; unfold set; split
          · rename_i hi; subst hi; rw [he]; rfl
          · rfl
        rw [e1] at hi hj
        exact r.apart i j b hi hj
      · have e1 : privB (set s t (.own false e sz xs) i) (a.tmps.getD i undef) = privB (s i) (a.tmps.getD i undef) := by
          unfold set; split
          · rename_i hi; subst hi; rw [he]; rfl
          · rfl
        rw [e1] at hi
        exact r.sep i b hi
      · refine ⟨r.heap.n, r.heap.lt, r.heap.inj, fun i o ho => (r.heap.obj i o ho).keepAt hk ⟨rfl, raise_other ?_⟩⟩
        have hi : i < g.n := by
          rw [← r.heap.n]
          rcases Nat.lt_or_ge i h.length with h' | h'
          · exact h'
          · simp [List.getElem?_eq_none h'] at ho
        exact r.sep t gb hb i hi
      · rw [raise_other (by omega)]; exact r.old b hb'
      · rw [raise_other (by omega)]; exact r.fresh b hb'
    · show Rep w _ (.sl sz xs) (a.tmps.getD t undef)
      rw [hv]
      refine .sl (fun j => vs.getD j undef) a3 a4 h1 h2 (fun j u hu => ?_) (fun j u hu => (h5 j u hu).keep hk)
      have hj : j < xs.length * sz := by
        rw [← hxl]
        rcases Nat.lt_or_ge j (flat xs).length with h' | h'
        · exact h'
        · simp [List.getElem?_eq_none h'] at hu
      refine ⟨?_, by rw [hpub]; omega, ?_⟩
      · rw [Nat.zero_add]
        exact ownsRow_cell h3 hv j (by omega)
      · apply h4
        rw [List.getD_eq_getElem?_getD, List.getElem?_eq_getElem (by omega)]
        exact List.getElem_mem _

theorem R.frz {H : Hst} {w0 w : World} {g0 g : Gh} {s : Slots} {h : Heap} {a : Act} (r : R H w0 g0 s h g a w) (o : Operand) :
    ∃ g', R H w0 g0 (frz s o).2 h g' a w ∧ Keeps w g w g' ∧ Rep w g' (frz s o).1 (a.eval o) ∧ g'.n = g.n := by
  have hv := r.eval_val o
  unfold Vm.frz
  split
  · rename_i t
    have hs := r.slots t
    split
    · rename_i m e sz xs he
      exact own_publish r he
    · rename_i k he
      rw [he] at hs
      have hev : a.eval (.tmp t) = tmOf a k := hs
      unfold frzAl
      split
      · rename_i m e sz xs hek
        rw [hev]
        exact own_publish r hek
      · exact ⟨g, r, Keeps.refl w g, .any _, rfl⟩
    · exact ⟨g, r, Keeps.refl w g, hv, rfl⟩
  · exact ⟨g, r, Keeps.refl w g, hv, rfl⟩

theorem R.frzs {H : Hst} {w0 w : World} {g0 : Gh} {h : Heap} {a : Act} : ∀ (os : List Operand) {g : Gh} {s : Slots}, R H w0 g0 s h g a w →
    ∃ g', R H w0 g0 (frzs s os).2 h g' a w ∧ Keeps w g w g' ∧ (frzs s os).1.length = os.length ∧ g'.n = g.n ∧ ∀ j u, (frzs s os).1[j]? = some u → Rep w g' u ((os.map a.eval).getD j undef)
  | [], g, s, r => ⟨g, r, Keeps.refl w g, rfl, rfl, fun j u hu => by simp [Vm.frzs] at hu⟩
  | o :: os, g, s, r => by
    obtain ⟨g1, r1, k1, p1, n1⟩ := r.frz o
    obtain ⟨g2, r2, k2, l2, n2, p2⟩ := R.frzs os r1
    refine ⟨g2, r2, k1.trans k2, by simp [Vm.frzs, l2], n2.trans n1, fun j u hu => ?_⟩
    cases j with
    | zero =>
      simp only [Vm.frzs, List.getElem?_cons_zero, Option.some.injEq] at hu
      subst hu
      simpa using p1.keep k2
    | succ j =>
      simp only [Vm.frzs, List.getElem?_cons_succ] at hu
      simpa using p2 j u hu

end Go.Vm
