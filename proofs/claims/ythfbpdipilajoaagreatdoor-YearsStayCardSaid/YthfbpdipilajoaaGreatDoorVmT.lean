/- What reads only what was published: it answers alike in every world that has that. -/
import Derived.Test.YthfbpdipilajoaaGreatDoorVmM
set_option linter.unusedVariables false
set_option linter.unusedSimpArgs false
namespace Go.Vm
open Go.RowKit

section
variable {P : Program} {H : Hst} {w0 w w' : World} {g0 g g' gg : Gh} {s : Slots} {h h' : Heap} {a : Act} {o : Oper} {K : AV → Slots → Heap → Prop} {Q : Exit → Act → World → Prop}

theorem Cells.refl (w : World) (g : Gh) : Cells w g w := fun _ _ _ _ h => h
theorem Keeps.cells (k : Keeps w g w' g') : Cells w g w' := k.cell
theorem Cells.after {w1 : World} {g1 : Gh} (k : Keeps w1 g1 w g) (c : Cells w g w') : Cells w1 g1 w' := fun b j v hj hv => c b j v (Nat.lt_of_lt_of_le hj (k.pub b)) (k.cell b j v hj hv)

theorem R.rebase (r : R H w0 g0 s h g a w) : R ⟨w, g⟩ w0 g0 s h g a w :=
  ⟨r.defers, r.slots, r.apart, r.sep, r.heap, r.frame, r.n0, r.loc0, r.old, r.loc1, r.fresh, r.laid, Keeps.refl w g⟩
theorem R.back {H' : Hst} (r : R H' w0 g0 s h g a w) (k : Keeps H.w H.g H'.w H'.g) : R H w0 g0 s h g a w :=
  ⟨r.defers, r.slots, r.apart, r.sep, r.heap, r.frame, r.n0, r.loc0, r.old, r.loc1, r.fresh, r.laid, k.trans r.kept⟩

theorem aft_valueS {N : Nat} {x : AV} {v : Value} (r : R H w0 g0 s h g a w) (hN : a.tmps.size = N) (hd : ∀ d, o.dst = some d → d < N)
    (hrun : ∀ w', Cells w g w' → (execOp a.eval o).run P w' = .ok (.value v) w') (hx : Rep w g x v) (hK : K x s h) : Pw P o a w g (Aft N H w0 g0 o K) := by
  refine ⟨v, hrun, x, s, h, g, hK, ?_, by rw [size_put]; exact hN⟩
  cases ho : o.dst with
  | none => exact r
  | some d => exact r.put_rep (by rw [hN]; exact hd d ho) hx

theorem load_cellsS {t : TypeId} {cs : List AV} {b off : Nat} {vs : Nat → Value} {KV : AV → Prop} {S : World → Prop}
    (hr : ∀ w', S w' → ∀ j u, cs[j]? = some u → w'.cell? ⟨b, off + j, none⟩ = some (vs j)) (ho : ∀ j u, cs[j]? = some u → (vs j).oneCell' = true) (hs : ∀ j u, cs[j]? = some u → Rep w g u (vs j))
    (hK : ofCells P t cs KV) : ∃ x v, (∀ w', S w' → (loadVar t ⟨b, off, none⟩).run P w' = .ok v w') ∧ Rep w g x v ∧ KV x := by
  unfold ofCells at hK
  split at hK
  · rename_i d n hu hn
    have hn' : ∃ i, P.info? t = some i ∧ i.size = n := by
      unfold szT at hn
      cases hi : P.info? t with
      | none => simp [hi] at hn
      | some i => simp [hi] at hn; exact ⟨i, rfl, hn⟩
    obtain ⟨i, hi, rfl⟩ := hn'
    have agg : i.size ≤ cs.length ∧ KV (.agg (cs.take i.size)) → (∀ w', (isAgg t).run P w' = .ok true w') → ∃ x v, (∀ w', S w' → (loadVar t ⟨b, off, none⟩).run P w' = .ok v w') ∧ Rep w g x v ∧ KV x := by
      rintro ⟨hl, hK⟩ ha
      refine ⟨_, .agg ((List.range i.size).map fun j => vs (0 + j)).toArray, fun w' hw' => ?_, ?_, hK⟩
      · have hlc := run_loadCells_of (P := P) (w := w') (b := b) (o := off) (vs := vs) i.size 0 #[] (fun j hj => by
          simpa using hr w' hw' j _ (List.getElem?_eq_getElem (by omega)))
        simp only [loadVar, Sem.run_bind, ha w', Result.andThen_ok, if_true, run_sizeOf hi, loadCells, hlc]
        simp
      · refine .agg (by simp; omega) (fun j hj => ?_) (fun j u hu => ?_)
        · simp at hj
          have hj' : j < cs.length := by omega
          have := ho j _ (List.getElem?_eq_getElem hj')
          simpa [Array.getD, hj] using this
        · rw [List.getElem?_take] at hu
          split at hu
          · rename_i hj
            simpa [Array.getD, hj] using hs j u hu
          · cases hu
    split at hK
    · exact agg hK (fun w' => by simp [isAgg, run_underlying hu])
    · exact agg hK (fun w' => by simp [isAgg, run_underlying hu])
    · rename_i h1 h2
      have ha : ∀ w', (isAgg t).run P w' = .ok false w' := fun w' => by
        unfold isAgg
        simp only [Sem.run_bind, run_underlying hu, Result.andThen_ok]
        rfl
      cases cs with
      | nil => exact absurd hK.1 (by simp)
      | cons c cs =>
        refine ⟨val c, vs 0, fun w' hw' => ?_, ?_, hK.2 c rfl⟩
        · have h0 := hr w' hw' 0 c rfl
          simp only [Nat.add_zero] at h0
          simp [loadVar, ha w', load, Sem.run, h0]
        · have := hs 0 c rfl
          cases c <;> first | exact this | exact .any _
  · exact hK.elim

theorem sound_loadP {N : Nat} {t : TypeId} {p : Operand} (ho : o.op = .load t p) (r : R H w0 g0 s h g a w) (hN : a.tmps.size = N) (hd : ∀ d, o.dst = some d → d < N)
    (he : eptrA (mv s p)) (hK : atPlace s h (mv s p) fun cs => ofCells P t cs fun v => K v s h) : Pw P o a w g (Aft N H w0 g0 o K) := by
  have hm := (r.mv p).1
  generalize mv s p = x at he hK hm
  cases x with
  | eptr cs =>
    have hm' : Rep w g (.eptr cs) (a.eval p) := hm
    generalize hv : a.eval p = v at hm'
    cases hm' with
    | @eptr _ b off vs hr hs =>
      obtain ⟨y, u, h1, h2, h3⟩ := load_cellsS (S := Cells w g) (fun w' hw' j u hu => hw' _ _ _ (hr j u hu).2.1 (hr j u hu).1) (fun j u hu => (hr j u hu).2.2) hs (show ofCells P t cs fun v => K v s h from hK)
      exact aft_valueS r hN hd (fun w' hw' => by simp [execOp, ho, hv, Instr.loadAt, Instr.sureAddr, h1 w' hw']) h2 h3
  | _ => exact he.elim

theorem sound_strOfP {N : Nat} {t t' : TypeId} {x : Operand} (ho : o.op = .convert t t' x) (r : R H w0 g0 s h g a w) (hN : a.tmps.size = N) (hd : ∀ d, o.dst = some d → d < N)
    (hu : P.underlying t' = some .string) (he : slA (ev s x)) (hK : awpStrOf P t (look s (ev s x)) fun v => K v s h) : Pw P o a w g (Aft N H w0 g0 o K) := by
  have hm := r.eval x
  generalize ev s x = y at he hK hm
  cases y with
  | sl sz xs =>
    have px : Rep w g (.sl sz xs) (a.eval x) := hm
    have hK' : awpStrOf P t (.sl sz xs) fun v => K v s h := hK
    obtain ⟨rfl, hb, l, rfl, hK'⟩ := hK'
    obtain ⟨e, h1, h2⟩ := bytesT_spec hb
    have fin : ∀ b : ByteArray, (∀ w', Cells w g w' → (convert t t' (a.eval x)).run P w' = .ok (.string b) w') → K (.v (.string b)) s h → Pw P o a w g (Aft N H w0 g0 o K) := fun b hrun hk =>
      aft_valueS r hN hd (fun w' hw' => by simp only [execOp, ho, Sem.run_bind, hrun w' hw', Result.andThen_ok]; rfl) (.v rfl) hk
    refine fin _ (fun w' hw' => ?_) hK'
    generalize a.eval x = v at px
    have hmap : ∀ l : List UInt8, strOfNums (l.map fun b => (b.toNat : Int)) = ⟨l.toArray⟩ := fun l => by
      simp [strOfNums, Function.comp_def]
    generalize hys : l.map encB = ys at px
    cases px with
    | nil =>
      have : l = [] := by simpa using hys
      subst this
      exact run_convert_bytes_nil w' t e h1 h2 0 0 t' hu
    | empty _ ad c hc =>
      have : l = [] := by simpa using hys
      subst this
      rw [run_convert_bytes_string w' t t' e _ 0 c h1 h2 hu]
      have := run_bytesToString (P := P) w' ad 0 c [] (by simpa using run_loadCells_list (P := P) w' ad [] (by simp))
      rw [this]; rfl
    | @sl _ _ b off c vs hc hm hsz hu' hr hs =>
      subst hys
      have hl : (l.map encB).length = l.length := by simp
      rw [hl] at hc ⊢
      have := run_convert_bytes_arg w' t e h1 h2 b off l.length c (l.map fun b => (b.toNat : Int)) (by simp) (fun i hi => by
        have hj : (flat (l.map encB))[i]? = some (encB l[i]) := by rw [flat_enc]; simp [hi]
        rw [hw' _ _ _ (hr i _ hj).2.1 (hr i _ hj).1]
        have := (rep_v (hs i _ hj)).1
        rw [this]; simp [hi]) t' hu
      rw [hmap] at this
      exact this
  | _ => exact he.elim

/-- A box that is published. -/
theorem box_publish (r : R H w0 g0 s h g a w) {t : Nat} {cs : List AV} (he : s t = .box cs) : ∃ g', R H w0 g0 (set s t (.eptr cs)) h g' a w ∧ g'.n = g.n := by
  have hs := r.slots t
  rw [he] at hs
  obtain ⟨gb, hv, hB, vs, e, a1, a2, a3, a4, a5⟩ := hs
  have hv' : tmOf a t = .pointer (some ⟨gb, 0, none⟩) := hv
  have hb : privB (s t) (tmOf a t) = some gb := by rw [he, hv']; rfl
  have hlt : gb < w.heap.size := lt_of_heap a1
  have hk := keeps_raise w g gb cs.length
  have hpub : (raise g gb cs.length).pub gb = cs.length := by simp [raise, a3]
  have hrest : ∀ i, i ≠ t → ∀ b, privB (s i) (tmOf a i) = some b → w.heap[b]? = w.heap[b]? ∧ (raise g gb cs.length).pub b = g.pub b := fun i hi b hb' =>
    ⟨rfl, raise_other fun e => hi (r.apart i t gb (e ▸ hb') hb)⟩
  have e1 : ∀ i b, privB (set s t (.eptr cs) i) (tmOf a i) = some b → privB (s i) (tmOf a i) = some b := fun i b hi => by
    unfold set at hi; split at hi
    · simp [privB] at hi
    · exact hi
  refine ⟨raise g gb cs.length, ⟨r.defers, fun i => ?_, fun i j b hi hj => r.apart i j b (e1 i b hi) (e1 j b hj), fun i b hi => r.sep i b (e1 i b hi), ?_, r.frame, r.n0, r.loc0, fun b hb' => ?_, r.loc1, fun b hb' => ?_, fun i cs hi => (r.laid i cs hi).keep hk, r.kept.trans hk⟩, rfl⟩
  · by_cases hi : i = t
    · subst hi
      simp only [set, if_true]
      show Rep w _ (.eptr cs) (a.tmps.getD i undef)
      rw [hv]
      refine .eptr (fun j => vs.getD j undef) (fun j u hu => ?_) (fun j u hu => (a5 j u hu).keep hk)
      have hj : j < cs.length := by
        rcases Nat.lt_or_ge j cs.length with h' | h'
        · exact h'
        · simp [List.getElem?_eq_none h'] at hu
      refine ⟨?_, by rw [hpub]; omega, a4 j (by omega)⟩
      rw [Nat.zero_add, cell_of_row w gb j vs e (0, 0) a1]
      simp [Array.getD, show j < vs.size by omega]
    · simp only [set, hi, if_false]
      exact (r.slots i).keepAt hk (hrest i hi)
  · refine ⟨r.heap.n, r.heap.lt, r.heap.inj, fun i o ho => (r.heap.obj i o ho).keepAt hk ⟨rfl, raise_other ?_⟩⟩
    have hi : i < g.n := by
      rw [← r.heap.n]
      rcases Nat.lt_or_ge i h.length with h' | h'
      · exact h'
      · simp [List.getElem?_eq_none h'] at ho
    exact r.sep t gb hb i hi
  · rw [raise_other (by omega)]; exact r.old b hb'
  · rw [raise_other (by omega)]; exact r.fresh b hb'

theorem R.drop_priv (r : R H w0 g0 s h g a w) (t : Nat) {x : AV} (hx : Rep w g x (tmOf a t)) : R H w0 g0 (set s t x) h g a w := by
  have e1 : ∀ i b, privB (set s t x i) (tmOf a i) = some b → privB (s i) (tmOf a i) = some b := fun i b hi => by
    unfold set at hi; split at hi
    · rw [privB_shared (rep_shared hx)] at hi; cases hi
    · exact hi
  refine ⟨r.defers, fun i => ?_, fun i j b hi hj => r.apart i j b (e1 i b hi) (e1 j b hj), fun i b hi => r.sep i b (e1 i b hi), r.heap, r.frame, r.n0, r.loc0, r.old, r.loc1, r.fresh, r.laid, r.kept⟩
  unfold set; split
  · rename_i hi; subst hi; exact slotRep_of_rep (rep_shared hx) hx
  · exact r.slots i

theorem R.pubs : ∀ (ks : List Nat) {s : Slots} {g : Gh}, R H w0 g0 s h g a w → ∃ g', R H w0 g0 (pubs s ks) h g' a w
  | [], s, g, r => ⟨g, r⟩
  | k :: ks, s, g, r => by
    unfold Vm.pubs
    have : ∃ g', R H w0 g0 (pub1 s k (s k)) h g' a w := by
      unfold pub1
      split
      · rename_i cs he
        obtain ⟨g', r', -⟩ := box_publish r he
        exact ⟨g', r'⟩
      · rename_i m e sz xs he
        obtain ⟨g', r', k', hx, -⟩ := own_publish r he
        refine ⟨g', ?_⟩
        have := r'.drop_priv k hx
        have e2 : set (set s k (.own false e sz xs)) k (.sl sz xs) = set s k (.sl sz xs) := by
          funext i; unfold set; split <;> simp_all
        rw [e2] at this
        exact this
      · exact ⟨g, r⟩
    obtain ⟨g', r'⟩ := this
    exact R.pubs ks r'

end
end Go.Vm
