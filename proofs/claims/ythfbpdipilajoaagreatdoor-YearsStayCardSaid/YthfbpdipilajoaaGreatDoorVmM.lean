/- Bytes and strings, nil, copies, arrays: each operation does what the interpreter says of it. -/
import Derived.Test.YthfbpdipilajoaaGreatDoorVmP
import Derived.Test.YthfbpdipilajoaaGreatDoorVmN
import Derived.Laws.BytesArg
import Derived.Laws.IdiomStrings
import Derived.Laws.IdiomCopy
set_option linter.unusedVariables false
set_option linter.unusedSimpArgs false
namespace Go.Vm
open Go.RowKit

section
variable {P : Program} {H : Hst} {w0 w w' : World} {g0 g g' gg : Gh} {s : Slots} {h h' : Heap} {a : Act} {o : Oper} {K : AV → Slots → Heap → Prop} {Q : Exit → Act → World → Prop}

theorem wp_of_pw {N : Nat} (hp : Pw P o a w ⟨fun _ => 0, 0, fun _ => 0⟩ (Aft N H w0 g0 o K)) : o.wp P a w (Aft N H w0 g0 o K) Q := by
  obtain ⟨v, h1, h2⟩ := hp
  unfold Oper.wp
  rw [h1 w fun _ _ _ _ h => h, Oper.upon_value]
  exact h2

/-- What is looked at, as what was handed on. -/
theorem look_rep (r : R H w0 g0 s h g a w) (o : Operand) : ∃ g1, Keeps w g w g1 ∧ g1.n = g.n ∧ Rep w g1 (val (Vm.look s (ev s o))) (a.eval o) := by
  have hv := r.eval o
  cases hx : ev s o with
  | own m e sz xs =>
    cases o with
    | tmp t =>
      obtain ⟨g1, -, k1, p1, n1⟩ := own_publish r (t := t) hx
      exact ⟨g1, k1, n1, p1⟩
    | const v =>
      have := shared_cst v
      rw [show cst v = .own m e sz xs from hx] at this; cases this
    | func f => cases hx
    | global i => simp only [ev] at hx; split at hx <;> cases hx
  | alias k =>
    rw [hx] at hv
    simp only [Vm.look]
    cases hsk : s k with
    | own m e sz xs =>
      obtain ⟨g1, -, k1, p1, n1⟩ := own_publish r hsk
      rw [show a.eval o = tmOf a k from hv]
      exact ⟨g1, k1, n1, p1⟩
    | _ => exact ⟨g, Keeps.refl w g, rfl, .any _⟩
  | _ => rw [hx] at hv; exact ⟨g, Keeps.refl w g, rfl, rep_val hv⟩

theorem run_eqGuard_slice (op : BinOp) (t : TypeId) (x y : Operand) (b : Option Addr) (n c : Nat) (v : Value) : (eqGuard op t x y (.slice b n c) v).run P w = .ok () w := by cases op <;> rfl
theorem run_eqGuard_pointer (op : BinOp) (t : TypeId) (x y : Operand) (b : Option Addr) (v : Value) : (eqGuard op t x y (.pointer b) v).run P w = .ok () w := by cases op <;> rfl
theorem run_eqGuard_map (op : BinOp) (t : TypeId) (x y : Operand) (b : Option Nat) (v : Value) : (eqGuard op t x y (.map b) v).run P w = .ok () w := by cases op <;> rfl
theorem run_eqGuard_nilFunc (op : BinOp) (t : TypeId) (x y : Operand) (v : Value) : (eqGuard op t x y .nilFunc v).run P w = .ok () w := by cases op <;> rfl
theorem run_eqGuard_func (op : BinOp) (t : TypeId) (x y : Operand) (f : Fn) (b c : Array Value) (v : Value) : (eqGuard op t x y (.func f b c) v).run P w = .ok () w := by cases op <;> rfl

theorem desc_of {d : Option TypeDesc} {p : TypeDesc → Bool} (h : d.any p = true) : ∃ x, d = some x ∧ p x = true := (Option.any_eq_true _ _).1 h

theorem sound_nil {N : Nat} {op : BinOp} {t t' : TypeId} {x y : Operand} {b : Bool} (ho : o.op = .binOp op t x y t') (r : R H w0 g0 s h g a w) (hN : a.tmps.size = N) (hd : ∀ d, o.dst = some d → d < N)
    (hg : ∀ w : World, (eqGuard op t x y (a.eval x) (a.eval y)).run P w = .ok () w) (he : ∀ w : World, (Op.equal t (a.eval x) (a.eval y)).run P w = .ok b w)
    (hb : op = .eql ∨ op = .neq → ∀ z : Value, (binOp .eql t (a.eval x) (a.eval y)) = (do pure (.bool (← Op.equal t (a.eval x) (a.eval y)))) ∧ (binOp .neq t (a.eval x) (a.eval y)) = (do pure (.bool (!(← Op.equal t (a.eval x) (a.eval y))))))
    (hK : eqK op b fun v => K (.v v) s h) : Pw P o a w gg (Aft N H w0 g0 o K) := by
  unfold eqK at hK
  split at hK
  · refine aft_repP r hN hd (fun w => ?_) (.v rfl) hK
    simp only [execOp, ho, Sem.run_bind, hg, Result.andThen_ok, (hb (.inl rfl) undef).1, he, Sem.run_pure]
  · refine aft_repP r hN hd (fun w => ?_) (.v rfl) hK
    simp only [execOp, ho, Sem.run_bind, hg, Result.andThen_ok, (hb (.inr rfl) undef).2, he, Sem.run_pure]
  · exact hK.elim

theorem run_equalIn_slice (d : Nat) {t e : TypeId} (ht : P.underlying t = some (.slice e)) (b : Option Addr) (n c : Nat) : (Op.equalIn (d + 1) t (.slice b n c) (.slice none 0 0)).run P w = .ok b.isNone w := by
  cases b <;> simp [Op.equalIn, run_underlying ht]
theorem run_equal_slice {t e : TypeId} (ht : P.underlying t = some (.slice e)) (b : Option Addr) (n c : Nat) : (Op.equal t (.slice b n c) (.slice none 0 0)).run P w = .ok b.isNone w := run_equalIn_slice 9999 ht b n c
theorem run_equalIn_pointer (d : Nat) {t e : TypeId} (ht : P.underlying t = some (.pointer e)) (b : Option Addr) : (Op.equalIn (d + 1) t (.pointer b) (.pointer none)).run P w = .ok b.isNone w := by
  cases b <;> simp [Op.equalIn, run_underlying ht]
theorem run_equal_pointer {t e : TypeId} (ht : P.underlying t = some (.pointer e)) (b : Option Addr) : (Op.equal t (.pointer b) (.pointer none)).run P w = .ok b.isNone w := run_equalIn_pointer 9999 ht b
theorem run_equalIn_map (d : Nat) {t k e : TypeId} (ht : P.underlying t = some (.map k e)) (b : Option Nat) : (Op.equalIn (d + 1) t (.map b) (.map none)).run P w = .ok b.isNone w := by
  cases b <;> simp [Op.equalIn, run_underlying ht]
theorem run_equal_map {t k e : TypeId} (ht : P.underlying t = some (.map k e)) (b : Option Nat) : (Op.equal t (.map b) (.map none)).run P w = .ok b.isNone w := run_equalIn_map 9999 ht b
theorem run_equalIn_func (d : Nat) {t : TypeId} {p q : Array TypeId} {va : Bool} (ht : P.underlying t = some (.func p q va)) (f : Fn) (b c : Array Value) : (Op.equalIn (d + 1) t (.func f b c) .nilFunc).run P w = .ok false w := by
  simp [Op.equalIn, run_underlying ht]
theorem run_equal_func {t : TypeId} {p q : Array TypeId} {va : Bool} (ht : P.underlying t = some (.func p q va)) (f : Fn) (b c : Array Value) : (Op.equal t (.func f b c) .nilFunc).run P w = .ok false w := run_equalIn_func 9999 ht f b c
theorem run_equalIn_nilFunc (d : Nat) {t : TypeId} {p q : Array TypeId} {va : Bool} (ht : P.underlying t = some (.func p q va)) : (Op.equalIn (d + 1) t .nilFunc .nilFunc).run P w = .ok true w := by
  simp [Op.equalIn, run_underlying ht]
theorem run_equal_nilFunc {t : TypeId} {p q : Array TypeId} {va : Bool} (ht : P.underlying t = some (.func p q va)) : (Op.equal t .nilFunc .nilFunc).run P w = .ok true w := run_equalIn_nilFunc 9999 ht

theorem sound_binXP {N : Nat} {op : BinOp} {t t' : TypeId} {x y : Operand} (ho : o.op = .binOp op t x y t') (r : R H w0 g0 s h g a w) (hN : a.tmps.size = N) (hd : ∀ d, o.dst = some d → d < N)
    (hK : awpBinX P op t (look s (ev s x)) (look s (ev s y)) fun v => K (.v v) s h) : Pw P o a w gg (Aft N H w0 g0 o K) := by
  unfold awpBinX at hK
  have hx := r.look x
  obtain ⟨g1, k1, n1, px⟩ := look_rep r x
  have hy := r.look y
  split at hK
  · rename_i hly
    rw [hly] at hy
    obtain ⟨ht, hK⟩ := hK
    obtain ⟨d, hdt, hm⟩ := desc_of ht
    cases d <;> simp at hm
    have fin : ∀ (b : Option Addr) (n c : Nat), a.eval x = .slice b n c → eqK op b.isNone (fun v => K (.v v) s h) → Pw P o a w gg (Aft N H w0 g0 o K) := fun b n c hv hk => by
      refine sound_nil ho r hN hd (fun w => by rw [hv]; exact run_eqGuard_slice ..) (fun w => by rw [hv, hy.1]; exact run_equal_slice hdt b n c) (fun _ _ => ?_) hk
      rw [hv, hy.1]; exact ⟨rfl, rfl⟩
    unfold nilSl at hK
    split at hK
    · rename_i hlx; rw [hlx] at hx; exact fin _ _ _ hx.1 hK
    · rename_i sz hlx
      rw [hlx] at hx
      obtain ⟨b, n, c, hv, -, -⟩ := hx
      exact fin b n c hv (hK _)
    · rename_i sz z zs hlx
      rw [hlx] at px
      generalize hv : a.eval x = v at px
      cases px with
      | sl vs hc hm' hsz hu hr hs => exact fin _ _ _ hv hK
    · exact hK.elim
  · rename_i hly
    rw [hly] at hy
    obtain ⟨ht, hK⟩ := hK
    obtain ⟨d, hdt, hm⟩ := desc_of ht
    cases d <;> simp at hm
    have fin : ∀ (b : Option Addr), a.eval x = .pointer b → eqK op b.isNone (fun v => K (.v v) s h) → Pw P o a w gg (Aft N H w0 g0 o K) := fun b hv hk => by
      refine sound_nil ho r hN hd (fun w => by rw [hv]; exact run_eqGuard_pointer ..) (fun w => by rw [hv, hy.1]; exact run_equal_pointer hdt b) (fun _ _ => ?_) hk
      rw [hv, hy.1]; exact ⟨rfl, rfl⟩
    unfold nilPt at hK
    split at hK
    · rename_i hlx; rw [hlx] at hx; exact fin _ hx.1 hK
    · rename_i i off hlx
      rw [hlx] at px
      generalize hv : a.eval x = v at px
      cases px with | ptr _ _ hi => exact fin _ hv hK
    · rename_i cs hlx
      rw [hlx] at px
      generalize hv : a.eval x = v at px
      cases px with | eptr vs hr hs => exact fin _ hv hK
    · exact hK.elim
  · rename_i hly
    rw [hly] at hy
    obtain ⟨ht, hK⟩ := hK
    obtain ⟨d, hdt, hm⟩ := desc_of ht
    cases d <;> simp at hm
    have fin : ∀ (b : Option Nat), a.eval x = .map b → eqK op b.isNone (fun v => K (.v v) s h) → Pw P o a w gg (Aft N H w0 g0 o K) := fun b hv hk => by
      refine sound_nil ho r hN hd (fun w => by rw [hv]; exact run_eqGuard_map ..) (fun w => by rw [hv, hy.1]; exact run_equal_map hdt b) (fun _ _ => ?_) hk
      rw [hv, hy.1]; exact ⟨rfl, rfl⟩
    unfold nilMp at hK
    split at hK
    · rename_i hlx; rw [hlx] at hx; exact fin _ hx.1 hK
    · rename_i i hlx
      rw [hlx] at px
      generalize hv : a.eval x = v at px
      cases px with | mp _ hi => exact fin _ hv hK
    · exact hK.elim
  · rename_i hly
    rw [hly] at hy
    obtain ⟨ht, hK⟩ := hK
    obtain ⟨d, hdt, hm⟩ := desc_of ht
    cases d <;> simp at hm
    unfold nilFn at hK
    split at hK
    · rename_i hlx
      rw [hlx] at hx
      refine sound_nil ho r hN hd (fun w => by rw [hx.1]; exact run_eqGuard_nilFunc ..) (fun w => by rw [hx.1, hy.1]; exact run_equal_nilFunc hdt) (fun _ _ => ?_) hK
      rw [hx.1, hy.1]; exact ⟨rfl, rfl⟩
    · rename_i f caps hlx
      rw [hlx] at px
      generalize hv : a.eval x = v at px
      cases px with
      | clo hl hs =>
        refine sound_nil ho r hN hd (fun w => by rw [hv]; exact run_eqGuard_func ..) (fun w => by rw [hv, hy.1]; exact run_equal_func hdt ..) (fun _ _ => ?_) hK
        rw [hv, hy.1]; exact ⟨rfl, rfl⟩
    · exact hK.elim
  · exact sound_binP ho r hN hd hK

theorem bytesT_spec {t : TypeId} (ht : bytesT P t = true) : ∃ e, P.underlying t = some (.slice e) ∧ P.underlying e = some (.int .u8) := by
  unfold bytesT at ht
  split at ht
  · rename_i e he
    split at ht
    · rename_i he2; exact ⟨e, he, he2⟩
    · cases ht
  · cases ht

theorem flat_enc : ∀ l : List UInt8, flat (l.map encB) = l.map encB := fun l => by
  induction l with
  | nil => rfl
  | cons y ys ih => simp only [flat, List.map_cons, List.flatMap_cons] at ih ⊢; rw [ih]; rfl

theorem sound_strOf {N : Nat} {t t' : TypeId} {x : Operand} (ho : o.op = .convert t t' x) (r : R H w0 g0 s h g a w) (hN : a.tmps.size = N) (hd : ∀ d, o.dst = some d → d < N)
    (hu : P.underlying t' = some .string) (hK : awpStrOf P t (look s (ev s x)) fun v => K v s h) : o.wp P a w (Aft N H w0 g0 o K) Q := by
  have hx := r.look x
  obtain ⟨g1, k1, n1, px⟩ := look_rep r x
  have fin : ∀ b : ByteArray, (convert t t' (a.eval x)).run P w = .ok (.string b) w → K (.v (.string b)) s h → o.wp P a w (Aft N H w0 g0 o K) Q := fun b hrun hk =>
    aft_rep r hN hd (by simp only [execOp, ho, Sem.run_bind, hrun, Result.andThen_ok]; rfl) (.v rfl) hk
  unfold awpStrOf at hK
  split at hK
  · rename_i sz xs hlx
    obtain ⟨rfl, hb, l, rfl, hK⟩ := hK
    obtain ⟨e, h1, h2⟩ := bytesT_spec hb
    rw [hlx] at px
    have px' : Rep w g1 (.sl 1 (l.map encB)) (a.eval x) := px
    refine fin _ ?_ hK
    generalize a.eval x = v at px'
    have hmap : ∀ l : List UInt8, strOfNums (l.map fun b => (b.toNat : Int)) = ⟨l.toArray⟩ := fun l => by
      simp [strOfNums, Function.comp_def]
    generalize hys : l.map encB = ys at px'
    cases px' with
    | nil =>
      have : l = [] := by simpa using hys
      subst this
      exact run_convert_bytes_nil w t e h1 h2 0 0 t' hu
    | empty _ ad c hc =>
      have : l = [] := by simpa using hys
      subst this
      rw [run_convert_bytes_string w t t' e _ 0 c h1 h2 hu]
      have := run_bytesToString (P := P) w ad 0 c [] (by simpa using run_loadCells_list (P := P) w ad [] (by simp))
      rw [this]; rfl
    | @sl _ _ b off c vs hc hm hsz hu' hr hs =>
      subst hys
      have hl : (l.map encB).length = l.length := by simp
      rw [hl] at hc ⊢
      have := run_convert_bytes_arg w t e h1 h2 b off l.length c (l.map fun b => (b.toNat : Int)) (by simp) (fun i hi => by
        have hj : (flat (l.map encB))[i]? = some (encB l[i]) := by rw [flat_enc]; simp [hi]
        rw [(hr i _ hj).1]
        have := (rep_v (hs i _ hj)).1
        rw [this]; simp [hi]) t' hu
      rw [hmap] at this
      exact this
  · rename_i hlx
    rw [hlx] at hx
    obtain ⟨hb, hK⟩ := hK
    obtain ⟨e, h1, h2⟩ := bytesT_spec hb
    refine fin _ ?_ hK
    rw [hx.1]
    exact run_convert_bytes_nil w t e h1 h2 0 0 t' hu
  · rename_i b hlx
    rw [hlx] at hx
    refine fin _ ?_ hK.2
    rw [hx.1]
    simp [convert, run_underlying hu, run_underlying hK.1]
  · exact hK.elim

/-- A block that was laid just now is published. -/
theorem R.publish_new (r : R H w0 g0 s h g a w) {b n : Nat} (hp : ∀ i, privB (s i) (tmOf a i) ≠ some b) (hl : ∀ k, k < g.n → g.loc k ≠ b) (hB : w0.heap.size ≤ b) (hb : b < w.heap.size) (h0 : g.pub b = 0) : R H w0 g0 s h (raise g b n) a w :=
  r.world (keeps_raise w g b n) rfl (fun i k hk => ⟨rfl, raise_other fun e => hp i (e ▸ hk)⟩) (fun i hi => ⟨rfl, raise_other (hl i hi)⟩) r.frame (Nat.le_refl _) (fun k hk => raise_other (by omega)) (fun k hk => by rw [raise_other (by omega)]; exact r.fresh k hk)

theorem sound_bytesOf {N : Nat} {t t' : TypeId} {x : Operand} {b : ByteArray} (ho : o.op = .convert t t' x) (r : R H w0 g0 s h g a w) (hN : a.tmps.size = N) (hd : ∀ d, o.dst = some d → d < N)
    (hx : a.eval x = .string b) (hb : bytesT P t' = true) (hs : P.underlying t = some .string) (hl : b.size ≤ maxLen) (hK : K (.sl 1 (b.data.toList.map encB)) s h) : o.wp P a w (Aft N H w0 g0 o K) Q := by
  obtain ⟨e, h1, h2⟩ := bytesT_spec hb
  have hrun := run_bytes_of_string (P := P) w t t' e b hs h1 h2
  have hcap := grownCap_le_maxLen w b.size 0 e hl
  have hge := grownCap_ge w b.size 0 e
  generalize grownCap w b.size 0 e = cap at hrun hcap hge
  have rd := r.drew
  have r1 := rd.alloc (.cells (bytesRow b cap) e ((bytesRow b cap).size, (bytesRow b cap).size + 1))
  have hsep := rd.sep_new
  have r2 := r1.publish_new (b := w.heap.size) (n := b.size) hsep.1 hsep.2 r.frame.size (by show _ < Array.size (Array.push _ _); simp) (r.fresh _ (Nat.le_refl _))
  refine aft_world r2 hN hd (by simp only [execOp, ho, Sem.run_bind, hx, hrun, Result.andThen_ok]; rfl) (slotRep_of_rep (x := .sl 1 (b.data.toList.map encB)) rfl ?_) (fun b hb => by cases hb) hK
  have hbs : b.data.toList.length = b.size := Array.length_toList
  have hlen : (b.data.toList.map encB).length = b.size := by rw [List.length_map]; exact hbs
  by_cases h0 : b.size = 0
  · have : b.data.toList = [] := List.eq_nil_of_length_eq_zero (by omega)
    rw [this, h0]
    exact .empty 1 _ _ hcap
  · have key := Rep.sl (w := w.drew.alloc (.cells (bytesRow b cap) e ((bytesRow b cap).size, (bytesRow b cap).size + 1))) (g := raise g w.heap.size b.size) (sz := 1) (xs := b.data.toList.map encB) (b := w.heap.size) (o := 0) (c := cap)
      (fun j => .int .u8 ((b.data.toList.getD j 0).toNat : Nat)) (by rw [hlen]; exact hge) hcap (by decide) (fun u hu => by obtain ⟨y, -, rfl⟩ := List.mem_map.1 hu; rfl) (fun j u hj => ?_) (fun j u hj => ?_)
    · rw [hlen] at key; exact key
    all_goals
      rw [flat_enc] at hj
      have hjl : j < b.data.toList.length := by
        rcases Nat.lt_or_ge j b.data.toList.length with h' | h'
        · exact h'
        · rw [List.getElem?_eq_none (by simpa using h')] at hj; cases hj
    · refine ⟨?_, ?_, rfl⟩
      · have hrow : (w.drew.alloc (.cells (bytesRow b cap) e ((bytesRow b cap).size, (bytesRow b cap).size + 1))).heap[w.heap.size]? = some (.cells (bytesRow b cap) e ((bytesRow b cap).size, (bytesRow b cap).size + 1)) := heap_alloc_new w.drew _
        rw [cell_of_row _ _ _ _ _ _ hrow]
        have : 0 + j < b.data.size := by simpa using hjl
        simp only [bytesRow]
        rw [Array.getElem?_append_left (by simpa using this)]
        simp only [Nat.zero_add] at this ⊢
        simp [this]
        rw [Array.getElem?_eq_getElem this]
        exact ⟨_, rfl, rfl⟩
      · simp only [raise, if_true, Nat.zero_add]
        omega
    · simp only [List.getElem?_map, List.getElem?_eq_getElem hjl, Option.map_some, Option.some.injEq] at hj
      subst hj
      have : b.data.toList.getD j 0 = b.data.toList[j] := by rw [List.getD_eq_getElem?_getD, List.getElem?_eq_getElem hjl]; rfl
      rw [this]
      exact .v rfl

theorem sound_cvX {N : Nat} {t t' : TypeId} {x : Operand} (ho : o.op = .convert t t' x) (r : R H w0 g0 s h g a w) (hN : a.tmps.size = N) (hd : ∀ d, o.dst = some d → d < N)
    (hK : awpCvX P t t' (tk s x) (look s (ev s x)) (ev s x) s fun v s' => K v s' h) : o.wp P a w (Aft N H w0 g0 o K) Q := by
  unfold awpCvX at hK
  split at hK
  · rename_i hu; exact sound_strOf ho r hN hd hu hK
  · split at hK
    · rename_i b hl
      have hx := r.look x
      rw [hl] at hx
      exact sound_bytesOf ho r hN hd hx.1 hK.1 hK.2.1 hK.2.2.1 hK.2.2.2
    · exact sound_cv ho r hN hd hK

theorem sound_indexP {N : Nat} {t : TypeId} {x i : Operand} (ho : o.op = .index t x i) (r : R H w0 g0 s h g a w) (hN : a.tmps.size = N) (hd : ∀ d, o.dst = some d → d < N)
    (hK : awpIndex P t (ev s x) (ev s i) fun v => K v s h) : Pw P o a w gg (Aft N H w0 g0 o K) := by
  have hx := r.eval x
  have hi := r.eval i
  unfold awpIndex at hK
  split at hK
  · rename_i b k n ex ei
    rw [ex] at hx; rw [ei] at hi
    obtain ⟨hu, ⟨h0, h1⟩, hK⟩ := hK
    refine aft_repP r hN hd (fun w => ?_) (.v rfl) hK
    have hlt : n.toNat < b.size := by omega
    have hg : b[n.toNat]? = some (b.data.toList.getD n.toNat 0) := by
      have hd : n.toNat < b.data.size := hlt
      rw [getElem?_pos b n.toNat hlt]
      congr 1
      show b.data[n.toNat] = _
      rw [List.getD_eq_getElem?_getD, Array.getElem?_toList, Array.getElem?_eq_getElem hd]
      rfl
    simp [execOp, ho, (rep_v hx).1, (rep_v hi).1, Instr.index, run_underlying hu, asIntOf, h0, hg]
  · exact hK.elim

theorem arrSz_spec {t : TypeId} {len sz : Nat} (hA : arrSz P t = some (len, sz)) : ∃ e i, P.underlying t = some (.array len e) ∧ P.info? e = some i ∧ i.size = sz ∧ 0 < sz := by
  unfold arrSz at hA
  split at hA
  · rename_i l e hu
    split at hA
    · rename_i i hi
      split at hA
      · simp only [Option.some.injEq, Prod.mk.injEq] at hA
        obtain ⟨rfl, rfl⟩ := hA
        exact ⟨e, i, hu, hi, rfl, by assumption⟩
      · cases hA
    · cases hA
  · cases hA

theorem sound_arrP {N : Nat} {t : TypeId} {x i : Operand} {len sz : Nat} (ho : o.op = .indexAddr t x i) (r : R H w0 g0 s h g a w) (hN : a.tmps.size = N) (hd : ∀ d, o.dst = some d → d < N)
    (hA : arrSz P t = some (len, sz)) (hK : awpArr len sz (mv s x) (ev s i) fun v => K v s h) : Pw P o a w gg (Aft N H w0 g0 o K) := by
  obtain ⟨e, inf, hu, hinf, hsz, hpos⟩ := arrSz_spec hA
  have hm := (r.mv x).1
  have hi := r.eval i
  unfold awpArr at hK
  split at hK
  · rename_i k n ei
    rw [ei] at hi
    obtain ⟨⟨h0, h1⟩, hK⟩ := hK
    have hrun : ∀ b o', a.eval x = .pointer (some ⟨b, o', none⟩) → ∀ w : World, (execOp a.eval o).run P w = .ok (.value (.pointer (some ⟨b, o' + n.toNat * sz, none⟩))) w := fun b o' he w => by
      simp [execOp, ho, he, (rep_v hi).1, Instr.indexAt, run_underlying hu, Instr.sureAddr, asIntOf, h0, h1, run_sizeOf hinf, hsz, addr_add]
    split at hK
    · rename_i k' off he
      rw [he] at hm
      obtain ⟨b, hb, hv⟩ := hm
      exact aft_valueP r hN hd (hrun b off hv) (x := .place k' (off + n.toNat * sz)) ⟨b, hb, rfl⟩ (fun b hb => by cases hb) hK
    · rename_i cs he
      rw [he] at hm
      have hm' : Rep w g (.eptr cs) (a.eval x) := hm
      generalize hv : a.eval x = v at hm'
      cases hm' with
      | @eptr _ b off vs hr hs =>
        refine aft_repP r hN hd (hrun b off hv) (.eptr (fun j => vs (n.toNat * sz + j)) (fun j u hj => ?_) (fun j u hj => ?_)) hK
        · rw [List.getElem?_drop] at hj
          rw [Nat.add_assoc]; exact hr _ _ hj
        · rw [List.getElem?_drop] at hj; exact hs _ _ hj
    · rename_i k' off he
      rw [he] at hm
      have hm' : Rep w g (.ptr k' off) (a.eval x) := hm
      generalize hv : a.eval x = v at hm'
      cases hm' with
      | ptr _ _ hi => exact aft_repP r hN hd (hrun _ off hv) (.ptr k' _ hi) hK
    · exact hK.elim
  · exact hK.elim

theorem sound_idxXP {N : Nat} {t : TypeId} {x i : Operand} (ho : o.op = .indexAddr t x i) (r : R H w0 g0 s h g a w) (hN : a.tmps.size = N) (hd : ∀ d, o.dst = some d → d < N)
    (hK : awpIdxX s (elemSz P t) (arrSz P t) (mv s x) (ev s x) (ev s i) fun v => K v s h) : Pw P o a w gg (Aft N H w0 g0 o K) := by
  unfold awpIdxX at hK
  split at hK
  · rename_i len sz hA; exact sound_arrP ho r hN hd hA hK
  · split at hK
    · rename_i k hm
      have hmv := (r.mv x).1
      rw [hm] at hmv
      have hex : a.eval x = tmOf a k := hmv
      have hk := r.slots k
      unfold awpIdxO at hK
      split at hK
      · rename_i e sz m' e' sz' xs k' n he hsk hi
        rw [hsk] at hk
        obtain ⟨rfl, hb, hK⟩ := hK
        obtain ⟨hu, inf, hinf, hsz⟩ := elemSz_spec he
        have hri := r.eval i
        rw [hi] at hri
        have hei : a.eval i = .int k' n := (rep_v hri).1
        obtain ⟨hpos, huc, vs, hrow, -⟩ := hk
        rcases hrow.2 with ⟨-, h0⟩ | ⟨gb, cap, cur, hv, -⟩
        · omega
        · have hv' : tmOf a k = .slice (some ⟨gb, 0, none⟩) xs.length cap := hv
          refine aft_valueP r hN hd (v := .pointer (some ⟨gb, n.toNat * sz', none⟩)) (fun w => ?_) (x := .elt k sz' n.toNat 0) ⟨gb, cap, xs.length, hv', by simp⟩ (fun b hb => by cases hb) hK
          simp [execOp, ho, hex, hv', hei, Instr.indexAt, run_underlying hu, asIntOf, hb.1, hb.2, run_sizeOf hinf, hsz, addr_add]
      · exact hK.elim
    · rename_i id off n c hm
      have hmv := (r.mv x).1
      rw [hm] at hmv
      have hmv' : Rep w g (.osl id off n c) (a.eval x) := hmv
      unfold awpIdxL at hK
      split at hK
      · rename_i e sz k' q he hi
        obtain ⟨hb, hK⟩ := hK
        obtain ⟨hu, inf, hinf, hsz⟩ := elemSz_spec he
        have hri := r.eval i
        rw [hi] at hri
        have hei : a.eval i = .int k' q := (rep_v hri).1
        generalize hv' : a.eval x = v at hmv'
        cases hmv' with
        | osl _ _ _ _ hid hc hmx =>
          refine aft_repP r hN hd (v := .pointer (some ⟨g.loc id, off + q.toNat * sz, none⟩)) (fun w => ?_) (x := .ptr id (off + q.toNat * sz)) (.ptr id _ hid) hK
          simp [execOp, ho, hv', hei, Instr.indexAt, run_underlying hu, asIntOf, hb.1, hb.2, run_sizeOf hinf, hsz, addr_add]
      · exact hK.elim
    · unfold awpIdx at hK
      split at hK
      · rename_i he
        split at hK
        · rename_i hx hi; exact sound_indexAddrP ho r hN hd he hx hi hK.1 hK.2
        · exact hK.elim
      · exact hK.elim

theorem slotOf_spec (r : R H w0 g0 s h g a w) {x : Operand} {k : Nat} (hx : slotOf s x = some k) : a.eval x = tmOf a k := by
  unfold slotOf at hx
  split at hx
  · rename_i t
    split at hx
    · simp only [Option.some.injEq] at hx; subst hx; rfl
    · rename_i k' he
      simp only [Option.some.injEq] at hx; subst hx
      have := r.slots t
      rw [he] at this
      exact this
    · cases hx
  · cases hx

/-- The cells of what is looked at. -/
theorem look_cells (r : R H w0 g0 s h g a w) {y : Operand} {sz : Nat} {ys : List AV} (hly : look s (ev s y) = .sl sz ys) (hyn : 0 < ys.length) :
    ∃ (yad : Addr) (c : Nat) (cv : Nat → Value), a.eval y = .slice (some yad) ys.length c ∧ (∀ j, j < ys.length * sz → w.cell? (yad.add j) = some (cv j) ∧ (cv j).oneCell' = true ∧ ∀ u, (flat ys)[j]? = some u → Rep w g u (cv j)) ∧ ∀ c ∈ ys, c.cells.length = sz := by
  have hv := r.eval y
  have fromOwn : ∀ (m : Bool) (e sz' : Nat) (xs : List AV) (v : Value), v = a.eval y → OwnRep w g w0.heap.size m e sz' xs v → sz' = sz → xs = ys →
      ∃ (yad : Addr) (c : Nat) (cv : Nat → Value), a.eval y = .slice (some yad) ys.length c ∧ (∀ j, j < ys.length * sz → w.cell? (yad.add j) = some (cv j) ∧ (cv j).oneCell' = true ∧ ∀ u, (flat ys)[j]? = some u → Rep w g u (cv j)) ∧ ∀ c ∈ ys, c.cells.length = sz := by
    rintro m e sz' xs v hve ⟨q1, q2, vs, q3, q4, q5, q6⟩ rfl rfl
    rcases q3.2 with ⟨rfl, h0⟩ | ⟨gb, cap, cur, hv', b1, b2, b3, b4, b5, b6⟩
    · omega
    · refine ⟨⟨gb, 0, none⟩, cap, fun j => vs.getD j undef, by rw [← hve, hv'], fun j hj => ?_, q2⟩
      have hj' : j < vs.length := by rw [q3.1]; exact hj
      refine ⟨?_, q4 _ ?_, fun u hu => q5 j u hu⟩
      · rw [addr_add, Nat.zero_add]
        exact ownsRow_cell q3 hv' j hj'
      · show vs.getD j undef ∈ vs
        rw [List.getD_eq_getElem?_getD, List.getElem?_eq_getElem hj']
        exact List.getElem_mem _
  cases hx : ev s y with
  | own m e sz2 xs =>
    rw [hx] at hv hly
    simp only [Vm.look, AV.sl.injEq] at hly
    exact fromOwn m e _ _ _ rfl hv hly.1 hly.2
  | alias k =>
    rw [hx] at hv hly
    have hkk := r.slots k
    simp only [Vm.look] at hly
    cases hsk : s k with
    | own m e sz2 xs =>
      rw [hsk] at hkk hly
      simp only [lookAl, AV.sl.injEq] at hly
      exact fromOwn m e _ _ (tmOf a k) (show tmOf a k = a.eval y from (show a.eval y = tmOf a k from hv).symm) hkk hly.1 hly.2
    | _ => rw [hsk] at hly; simp [lookAl] at hly
  | sl sz2 xs =>
    rw [hx] at hv hly
    simp only [Vm.look, AV.sl.injEq] at hly
    obtain ⟨rfl, rfl⟩ := hly
    have hv' : Rep w g (.sl sz2 xs) (a.eval y) := hv
    generalize a.eval y = v at hv'
    cases hv' with
    | nil => simp at hyn
    | empty => simp at hyn
    | @sl _ _ b off c cv hc hm hsz' hu hr hs =>
      have hfl := flat_length hu
      refine ⟨_, c, cv, rfl, fun j hj => ?_, hu⟩
      have := hr j _ (List.getElem?_eq_getElem (show j < (flat xs).length by omega))
      rw [addr_add]
      exact ⟨this.1, this.2.2, fun u hu => hs j u hu⟩
  | _ => rw [hx] at hly; simp [Vm.look] at hly

theorem sound_copy {N : Nat} {x y : Operand} {os : Array Operand} {ts : Array TypeId} {t tx : TypeId} (ho : o.op = .call { callee := .builtin .copy, args := os, argTypes := ts }) (hos : os.toList = [x, y]) (hts : ts.toList = [t, tx])
    (r : R H w0 g0 s h g a w) (hN : a.tmps.size = N) (hd : ∀ d, o.dst = some d → d < N)
    (hK : awpCopy P t (slotOf s x) (look s (ev s y)) s fun v s' => K v s' h) : o.wp P a w (Aft N H w0 g0 o K) Q := by
  have hA : os.map a.eval = #[a.eval x, a.eval y] := by apply Array.ext'; simp [hos]
  have hT' : ts = #[t, tx] := by apply Array.ext'; simp [hts]
  have hex : ∀ v w', (Builtin.copy_ #[t, tx] o.type #[a.eval x, a.eval y]).run P w = .ok v w' → (execOp a.eval o).run P w = .ok (.value v) w' := fun v w' hv => by
    simp [execOp, ho, resolve, invoke, builtin, hA, hT', hv]
  unfold awpCopy at hK
  split at hK
  · rename_i e sz k he hk
    obtain ⟨rfl, hK⟩ := hK
    obtain ⟨hu, inf, hinf, hisz⟩ := elemSz_spec he
    have hx := slotOf_spec r hk
    unfold copyTo at hK
    split at hK
    · rename_i e' sz xs sz' ys hsk hly
      obtain ⟨rfl, rfl, hK⟩ := hK
      obtain ⟨g1, k1, n1, py⟩ := look_rep r y
      rw [hly] at py
      have py' : Rep w g1 (.sl 1 ys) (a.eval y) := py
      have hsl := r.slots k
      rw [hsk] at hsl
      obtain ⟨hpos, hux, vs, hrow, hone, hrep, hpub⟩ := hsl
      have hsz1 : (P.info? e).map (·.size) = some 1 := by rw [hinf]; simp [hisz]
      have hys := rep_sl_shape py'
      obtain ⟨yb, yc, hyv, hyc⟩ := hys
      have hxv : ∃ xb xc, a.eval x = .slice xb xs.length xc := by
        rw [hx]
        rcases hrow.2 with ⟨hv, h0⟩ | ⟨gb, cap, cur, hv, -⟩
        · exact ⟨_, _, by rw [show tmOf a k = _ from hv, h0]⟩
        · exact ⟨_, _, hv⟩
      obtain ⟨xb, xc, hxv⟩ := hxv
      by_cases h0 : min ys.length xs.length = 0
      · have hsame : ys.take xs.length ++ xs.drop ys.length = xs := by
          rcases Nat.le_total ys.length xs.length with h1 | h1
          · have : ys = [] := List.eq_nil_of_length_eq_zero (by omega)
            subst this; simp
          · have : xs = [] := List.eq_nil_of_length_eq_zero (by omega)
            subst this; simp
        rw [hsame, h0] at hK
        have hset : Vm.set s k (.own true e' 1 xs) = s := by funext i; unfold Vm.set; split <;> simp_all
        rw [hset] at hK
        refine aft_rep r hN hd (v := goInt 0) (hex _ _ ?_) (.v rfl) hK
        rw [hxv, hyv]
        exact run_copy_none w t tx _ e _ _ _ _ _ _ hu hsz1 h0
      · have hxn : 0 < xs.length := by omega
        have hyn : 0 < ys.length := by omega
        rcases hrow.2 with ⟨hv, hz⟩ | ⟨gb, cap, cur, hv, b1, b2, b3, b4, b5, b6⟩
        · omega
        · have hpb : privB (s k) (tmOf a k) = some gb := by rw [hsk]; show Value.ownBlock (a.tmps.getD k undef) = _; rw [hv]; rfl
          have hp0 : g.pub gb = 0 := by have := hpub gb (by rw [hv]; rfl); simpa using this
          obtain ⟨yad, yc, cv, hyv2, hcv, huy⟩ := look_cells r hly hyn
          have hn1 : min ys.length xs.length ≤ xs.length := Nat.min_le_right ..
          have hn2 : min ys.length xs.length ≤ ys.length := Nat.min_le_left ..
          generalize hnn : min ys.length xs.length = n at hK h0 hn1 hn2
          have hcl : ((List.range n).map cv).length = n := by simp
          have hcur : xs.length ≤ cur.size := by rw [b5]; omega
          have hrun := run_copy_row P w t tx o.type e gb 0 xs.length cap yad ys.length yc cur e' ((List.range n).map cv) hu hsz1 b2 (by rw [hcl]; exact hnn.symm) (fun j v hj => by
            have hjn : j < n := by
              rcases Nat.lt_or_ge j n with h' | h'
              · exact h'
              · rw [List.getElem?_eq_none (by simpa using h')] at hj; cases hj
            simp [hjn] at hj
            subst hj
            exact (hcv j (by omega)).1) (by rw [hcl]; omega) (fun v hv => by
            obtain ⟨j, hj, rfl⟩ := List.mem_map.1 hv
            exact (hcv j (by have := List.mem_range.1 hj; omega)).2.1)
          rw [hcl] at hrun
          simp only [Nat.zero_add, List.take_zero, List.nil_append] at hrun
          have hkp : Keeps w g (w.setRow gb ((List.range n).map cv ++ cur.toList.drop n).toArray) g := keeps_setRow (e := e') (cur := cur) (fr := (0, 0)) hp0
          have hxs' : ys.take xs.length ++ xs.drop ys.length = ys.take n ++ xs.drop n := by
            rcases Nat.le_total ys.length xs.length with h1 | h1
            · have : n = ys.length := by omega
              subst this
              rw [List.take_of_length_le h1, List.take_length]
            · have : n = xs.length := by omega
              subst this
              rw [List.drop_eq_nil_of_le h1, List.drop_length]
          have hlen' : (ys.take n ++ xs.drop n).length = xs.length := by simp; omega
          have hvl : vs.length = xs.length := by simpa using hrow.1
          rw [hxs'] at hK
          have hown : OwnRep (w.setRow gb ((List.range n).map cv ++ cur.toList.drop n).toArray) g w0.heap.size true e' 1 (ys.take n ++ xs.drop n) (tmOf a k) := by
            refine ⟨hpos, fun c hc => ?_, (List.range n).map cv ++ vs.drop n, ?_, fun u hu => ?_, fun j u hj => ?_, fun b hb => ?_⟩
            · rcases List.mem_append.1 hc with hc | hc
              · exact huy c (List.mem_of_mem_take hc)
              · exact hux c (List.mem_of_mem_drop hc)
            · rw [hlen']
              refine ⟨by simp [hvl]; omega, .inr ⟨gb, cap, _, hv, b1, setRow_heap w gb cur _ e' _ b2, b3, b4, ?_, ?_⟩⟩
              · simp; omega
              · rw [← b6, Nat.mul_one]
                have h1 : ((List.range n).map cv).length = n := hcl
                rw [List.take_append]
                rw [h1, List.take_of_length_le (by rw [h1]; exact hn1), List.drop_take]
            · rcases List.mem_append.1 hu with hu | hu
              · obtain ⟨j, hj, rfl⟩ := List.mem_map.1 hu
                exact (hcv j (by have := List.mem_range.1 hj; omega)).2.1
              · exact hone u (List.mem_of_mem_drop hu)
            · rw [flat_append] at hj
              obtain ⟨t1, -⟩ := flat_take huy n hn2
              obtain ⟨-, t2⟩ := flat_take hux n hn1
              rw [t1, t2, Nat.mul_one] at hj
              have hfy := flat_length huy
              have hfx := flat_length hux
              have hty : ((flat ys).take n).length = n := by rw [List.length_take]; omega
              rw [List.getD_eq_getElem?_getD]
              rcases Nat.lt_or_ge j n with hjn | hjn
              · rw [List.getElem?_append_left (by omega), List.getElem?_take, if_pos hjn] at hj
                rw [List.getElem?_append_left (by omega)]
                have := (hcv j (by omega)).2.2 u hj
                simp only [List.getElem?_map, List.getElem?_range hjn, Option.map_some, Option.getD_some]
                exact this.keep hkp
              · rw [List.getElem?_append_right (by omega), hty, List.getElem?_drop] at hj
                rw [List.getElem?_append_right (by omega), hcl, List.getElem?_drop]
                rw [show n + (j - n) = j by omega] at hj ⊢
                have := (hrep j u hj).keep hkp
                simpa [List.getD_eq_getElem?_getD] using this
            · rw [show tmOf a k = _ from hv] at hb
              simp only [Value.ownBlock, Option.some.injEq] at hb
              subst hb
              simp [hp0]
          have r2 := r.setOwn hsk hpb hown hkp
          refine aft_world r2 hN hd (v := goInt n) (hex _ _ ?_) (slotRep_of_rep (x := .v (.int .i64 (n : Nat))) rfl (.v rfl)) (fun b hb => by cases hb) hK
          rw [hyv2, hx, show tmOf a k = _ from hv]
          exact hrun
    · exact hK.elim
  · exact hK.elim

/-- The builtins, 'copy' too. -/
theorem sound_buiX {N : Nat} {b : Builtin} {ts : Array TypeId} {os : Array Operand} (ho : o.op = .call { callee := .builtin b, args := os, argTypes := ts }) (r : R H w0 g0 s h g a w) (hN : a.tmps.size = N) (hd : ∀ d, o.dst = some d → d < N)
    (hK : awpBui P b ts.toList ts os.toList s h K) : o.wp P a w (Aft N H w0 g0 o K) Q := by
  unfold awpBui at hK
  split at hK
  · split at hK
    · rename_i x y t tx hos hts
      exact sound_append ho hos hts r hN hd hK
    · exact hK.elim
  · split at hK
    · rename_i x y t tx hos hts
      exact sound_copy ho hos hts r hN hd hK
    · exact hK.elim
  · split at hK
    · rename_i hos hts
      exact sound_delete ho hos hts r hN hd hK
    · exact hK.elim
  · split at hK
    · rename_i hos hts
      exact sound_clearX ho hos hts r hN hd hK
    · exact hK.elim
  · exact sound_builtin ho r hN hd hK

end
end Go.Vm
