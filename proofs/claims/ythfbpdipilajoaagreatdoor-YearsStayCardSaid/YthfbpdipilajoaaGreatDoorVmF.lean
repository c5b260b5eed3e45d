/- Each operation does what the interpreter says of it: reading memory, calls. -/
import Derived.Test.YthfbpdipilajoaaGreatDoorVmE
set_option linter.unusedVariables false
set_option linter.unusedSimpArgs false
namespace Go.Vm
open Go.RowKit

section
variable {P : Program} {H : Hst} {w0 w : World} {g0 g : Gh} {s : Slots} {h : Heap} {a : Act} {o : Oper} {K : AV → Slots → Heap → Prop} {Q : Exit → Act → World → Prop}

theorem elemSz_spec {t : TypeId} {e sz : Nat} (h : elemSz P t = some (e, sz)) : P.underlying t = some (.slice e) ∧ ∃ i, P.info? e = some i ∧ i.size = sz := by
  unfold elemSz at h
  split at h
  · rename_i e' hu
    split at h
    · rename_i i hi
      simp only [Option.some.injEq, Prod.mk.injEq] at h
      obtain ⟨rfl, rfl⟩ := h
      exact ⟨hu, i, hi, rfl⟩
    · cases h
  · cases h

theorem run_sizeOf {t : TypeId} {i : TypeInfo} (h : P.info? t = some i) : (sizeOf t).run P w = .ok i.size w := by
  simp [sizeOf, typeInfo, h]

theorem flat_get {xs : List AV} {sz : Nat} (hu : ∀ x ∈ xs, x.cells.length = sz) {i : Nat} {x : AV} (hx : xs[i]? = some x) (j : Nat) (hj : j < sz) :
    (flat xs)[i * sz + j]? = x.cells[j]? := by
  induction xs generalizing i with
  | nil => simp at hx
  | cons y ys ih =>
    have hy := hu y (List.mem_cons_self ..)
    cases i with
    | zero =>
      simp only [List.getElem?_cons_zero, Option.some.injEq] at hx
      subst hx
      simp only [flat, List.flatMap_cons, Nat.zero_mul, Nat.zero_add]
      rw [List.getElem?_append_left (by omega)]
    | succ i =>
      simp only [List.getElem?_cons_succ] at hx
      simp only [flat, List.flatMap_cons]
      have e : (i + 1) * sz + j = y.cells.length + (i * sz + j) := by rw [hy, Nat.add_mul]; omega
      rw [e, List.getElem?_append_right (by omega)]
      simp only [Nat.add_sub_cancel_left]
      exact ih (fun z hz => hu z (List.mem_cons_of_mem _ hz)) hx

theorem rep_elem {sz : Nat} {xs : List AV} {v : Value} (hr : Rep w g (.sl sz xs) v) {i : Nat} {x : AV} (hx : xs[i]? = some x) :
    ∃ b o c, v = .slice (some ⟨b, o, none⟩) xs.length c ∧ Rep w g (.eptr x.cells) (.pointer (some ⟨b, o + i * sz, none⟩)) ∧ x.cells.length = sz ∧ i < xs.length := by
  have hi : i < xs.length := by
    rcases Nat.lt_or_ge i xs.length with h | h
    · exact h
    · simp [List.getElem?_eq_none h] at hx
  cases hr with
  | nil => simp at hi
  | empty => simp at hi
  | @sl _ _ b o c vs hc hm hsz hu hr hs =>
    have hxl := hu x (List.mem_of_getElem? hx)
    have hj : ∀ j u, x.cells[j]? = some u → (flat xs)[i * sz + j]? = some u := fun j u hju => by
      have hlt : j < sz := by
        rcases Nat.lt_or_ge j x.cells.length with h | h
        · omega
        · simp [List.getElem?_eq_none h] at hju
      rw [flat_get hu hx j hlt]; exact hju
    refine ⟨b, o, c, rfl, .eptr (fun j => vs (i * sz + j)) (fun j u hju => ?_) (fun j u hju => hs _ _ (hj j u hju)), hxl, hi⟩
    have := hr _ _ (hj j u hju)
    rw [show o + i * sz + j = o + (i * sz + j) by omega]
    exact this

theorem asSl_rep {sz : Nat} {x : AV} {xs : List AV} {v : Value} (h : asSl sz x = some xs) (hr : Rep w g x v) : Rep w g (.sl sz xs) v := by
  unfold asSl at h
  split at h
  · split at h
    · rename_i e; simp only [Option.some.injEq] at h; subst e; subst h; exact hr
    · cases h
  · simp only [Option.some.injEq] at h
    subst h
    rw [(rep_v hr).1]
    exact .nil sz
  · cases h

theorem shared_asSl {sz : Nat} {x : AV} {xs : List AV} (h : asSl sz x = some xs) : shared x = true := by
  unfold asSl at h
  split at h <;> first | rfl | cases h

theorem sound_indexAddr {N : Nat} {t : TypeId} {x i : Operand} {e sz : Nat} {xs : List AV} {k : IntKind} {n : Int} (ho : o.op = .indexAddr t x i) (r : R H w0 g0 s h g a w) (hN : a.tmps.size = N) (hd : ∀ d, o.dst = some d → d < N)
    (he : elemSz P t = some (e, sz)) (hx : asSl sz (ev s x) = some xs) (hi : ev s i = .v (.int k n)) (hb : 0 ≤ n ∧ n < xs.length)
    (hK : ∀ x, xs[n.toNat]? = some x → K (.eptr x.cells) s h) : o.wp P a w (Aft N H w0 g0 o K) Q := by
  obtain ⟨hu, inf, hinf, hsz⟩ := elemSz_spec he
  have hri := r.eval i
  rw [hi] at hri
  have hei : a.eval i = .int k n := (rep_v hri).1
  have hrx := asSl_rep hx (rep_of_slotRep (shared_asSl hx) (r.eval x))
  have hlt : n.toNat < xs.length := by omega
  obtain ⟨b, off, c, hex, hp, hl, -⟩ := rep_elem hrx (List.getElem?_eq_getElem hlt)
  refine aft_rep r hN hd ?_ hp (hK _ (List.getElem?_eq_getElem hlt))
  have hadd : (⟨b, off, none⟩ : Addr).add (n.toNat * sz) = ⟨b, off + n.toNat * sz, none⟩ := by
    unfold Addr.add; split
    · rename_i h0; rw [h0]; rfl
    · rfl
  simp [execOp, ho, hex, hei, Instr.indexAt, run_underlying hu, asIntOf, hb.1, hb.2, run_sizeOf hinf, hsz, hadd]

theorem run_loadCells_of {b o : Nat} {vs : Nat → Value} : ∀ (n i : Nat) (acc : Array Value), (∀ j, j < n → w.cell? ⟨b, o + (i + j), none⟩ = some (vs (i + j))) →
    (loadCellsFrom ⟨b, o, none⟩ i n acc).run P w = .ok (acc ++ ((List.range n).map fun j => vs (i + j)).toArray) w
  | 0, i, acc, _ => by simp [loadCellsFrom]
  | n + 1, i, acc, hc => by
    have h0 := hc 0 (by omega)
    simp only [Nat.add_zero] at h0
    have hadd : (⟨b, o, none⟩ : Addr).add i = ⟨b, o + i, none⟩ := by
      unfold Addr.add; split
      · simp_all
      · rfl
    have hl : (load ⟨b, o + i, none⟩).run P w = .ok (vs i) w := by simp [load, Sem.run, h0]
    have ih := run_loadCells_of n (i + 1) (acc.push (vs i)) (fun j hj => by have := hc (j + 1) (by omega); rw [show i + 1 + j = i + (j + 1) by omega]; exact this)
    simp only [loadCellsFrom, Sem.run_bind, hadd, hl, Result.andThen_ok, ih]
    congr 1
    rw [List.range_succ_eq_map]
    simp only [List.map_cons, List.map_map, Nat.add_zero]
    apply Array.ext'
    simp only [Array.toList_append, Array.toList_push, List.append_assoc, List.singleton_append]
    congr 2
    apply List.map_congr_left
    intro j _
    simp only [Function.comp_apply]
    congr 1
    omega

/-- What is loaded from cells that are represented. -/
theorem load_cells {t : TypeId} {cs : List AV} {b off : Nat} {vs : Nat → Value} {KV : AV → Prop}
    (hr : ∀ j u, cs[j]? = some u → w.cell? ⟨b, off + j, none⟩ = some (vs j) ∧ (vs j).oneCell' = true) (hs : ∀ j u, cs[j]? = some u → Rep w g u (vs j))
    (hK : ofCells P t cs KV) : ∃ x v, (loadVar t ⟨b, off, none⟩).run P w = .ok v w ∧ Rep w g x v ∧ KV x := by
  unfold ofCells at hK
  split at hK
  · rename_i d n hu hn
    have hn' : ∃ i, P.info? t = some i ∧ i.size = n := by
      unfold szT at hn
      cases hi : P.info? t with
      | none => simp [hi] at hn
      | some i => simp [hi] at hn; exact ⟨i, rfl, hn⟩
    obtain ⟨i, hi, rfl⟩ := hn'
    have agg : i.size ≤ cs.length ∧ KV (.agg (cs.take i.size)) → (isAgg t).run P w = .ok true w → ∃ x v, (loadVar t ⟨b, off, none⟩).run P w = .ok v w ∧ Rep w g x v ∧ KV x := by
      rintro ⟨hl, hK⟩ ha
      have hlc := run_loadCells_of (P := P) (w := w) (b := b) (o := off) (vs := vs) i.size 0 #[] (fun j hj => by
        simpa using (hr j _ (List.getElem?_eq_getElem (by omega))).1)
      refine ⟨_, .agg ((List.range i.size).map fun j => vs (0 + j)).toArray, ?_, ?_, hK⟩
      · simp only [loadVar, Sem.run_bind, ha, Result.andThen_ok, if_true, run_sizeOf hi, loadCells, hlc]
        simp
      · refine .agg (by simp; omega) (fun j hj => ?_) (fun j u hu => ?_)
        · simp at hj
          have hj' : j < cs.length := by omega
          have := (hr j _ (List.getElem?_eq_getElem hj')).2
          simpa [Array.getD, hj] using this
        · rw [List.getElem?_take] at hu
          split at hu
          · rename_i hj
            simpa [Array.getD, hj] using hs j u hu
          · cases hu
    split at hK
    · exact agg hK (by simp [isAgg, run_underlying hu])
    · exact agg hK (by simp [isAgg, run_underlying hu])
    · rename_i h1 h2
      have ha : (isAgg t).run P w = .ok false w := by
        unfold isAgg
        simp only [Sem.run_bind, run_underlying hu, Result.andThen_ok]
        rfl
      cases cs with
      | nil => exact absurd hK.1 (by simp)
      | cons c cs =>
        have h0 := hr 0 c rfl
        simp only [Nat.add_zero] at h0
        refine ⟨val c, vs 0, ?_, ?_, hK.2 c rfl⟩
        · simp [loadVar, ha, load, Sem.run, h0.1]
        · have := hs 0 c rfl
          cases c <;> first | exact this | exact .any _
  · exact hK.elim

theorem row_load {t : TypeId} {cs : List AV} {b off : Nat} {KV : AV → Prop} (hrow : RowAt w g cs b) (hK : ofCells P t (cs.drop off) KV) :
    ∃ y u, (loadVar t ⟨b, off, none⟩).run P w = .ok u w ∧ Rep w g y u ∧ KV y := by
  obtain ⟨vs, e, a1, a2, a3, a4, a5⟩ := hrow
  exact load_cells (P := P) (w := w) (g := g) (b := b) (off := off) (vs := fun j => vs.getD (off + j) undef) (fun j u hu => by
    rw [List.getElem?_drop] at hu
    have hlt : off + j < cs.length := by
      rcases Nat.lt_or_ge (off + j) cs.length with h | h
      · exact h
      · simp [List.getElem?_eq_none h] at hu
    refine ⟨?_, a4 _ (by omega)⟩
    rw [cell_of_row w b _ vs e (0, 0) a1]
    simp [Array.getD, Nat.lt_of_lt_of_le hlt a2]) (fun j u hu => by rw [List.getElem?_drop] at hu; exact a5 _ _ hu) hK

/-- A pointer into the frame's own, into an object, or into what was published: the cells there. -/
theorem atPlace_load {t : TypeId} {x : AV} {v : Value} {KV : AV → Prop} (r : R H w0 g0 s h g a w) (hx : slotRep w g w0.heap.size (tmOf a) x v)
    (hK : atPlace s h x fun cs => ofCells P t cs KV) : ∃ ad y u, v = .pointer (some ad) ∧ (loadVar t ad).run P w = .ok u w ∧ Rep w g y u ∧ KV y := by
  unfold atPlace at hK
  split at hK
  · cases hx with
    | @eptr _ b off vs hr hs =>
      obtain ⟨y, u, h1, h2, h3⟩ := load_cells (fun j u hu => ⟨(hr j u hu).1, (hr j u hu).2.2⟩) hs hK
      exact ⟨_, y, u, rfl, h1, h2, h3⟩
  · rename_i k off
    obtain ⟨b, hb, rfl⟩ := hx
    have hk := r.slots k
    unfold boxA at hK
    split at hK
    · rename_i cs hsk
      rw [hsk] at hk
      obtain ⟨b', hb', -, hrow⟩ := hk
      have : b' = b := by
        have hb2 : a.tmps.getD k undef = .pointer (some ⟨b, 0, none⟩) := hb
        rw [hb2] at hb'; simpa using hb'.symm
      subst this
      obtain ⟨y, u, h1, h2, h3⟩ := row_load hrow hK
      exact ⟨_, y, u, rfl, h1, h2, h3⟩
    · rename_i cs hsk
      rw [hsk] at hk
      have hb2 : a.tmps.getD k undef = .pointer (some ⟨b, 0, none⟩) := hb
      rw [hb2] at hk
      have hk' : Rep w g (.eptr cs) (.pointer (some ⟨b, 0, none⟩)) := hk
      generalize hq : (some (⟨b, 0, none⟩ : Addr)) = q at hk'
      cases hk' with
      | eptr vs hr hs =>
        cases hq
        have e : ∀ j u, (cs.drop off)[j]? = some u → cs[off + j]? = some u := fun j u hu => by rwa [List.getElem?_drop] at hu
        obtain ⟨y, u, h1, h2, h3⟩ := load_cells (vs := fun j => vs (off + j)) (off := off) (b := b) (fun j u hu => by
          have := hr _ u (e j u hu)
          rw [Nat.zero_add] at this
          exact ⟨this.1, this.2.2⟩) (fun j u hu => hs _ u (e j u hu)) hK
        exact ⟨_, y, u, rfl, h1, h2, h3⟩
    · rename_i i o0 hsk
      rw [hsk] at hk
      have hb2 : a.tmps.getD k undef = .pointer (some ⟨b, 0, none⟩) := hb
      rw [hb2] at hk
      have hk' : Rep w g (.ptr i o0) (.pointer (some ⟨b, 0, none⟩)) := hk
      generalize hq : (some (⟨b, 0, none⟩ : Addr)) = q at hk'
      cases hk' with
      | ptr _ _ hi =>
        cases hq
        unfold objA at hK
        split at hK
        · rename_i cs ho
          obtain ⟨y, u, h1, h2, h3⟩ := row_load (r.heap.obj i _ ho) hK
          rw [Nat.zero_add] at h1
          exact ⟨_, y, u, rfl, h1, h2, h3⟩
        · rename_i e m cs ho
          have hro : RowE w g e m cs (g.loc i) := r.heap.obj i _ ho
          obtain ⟨y, u, h1, h2, h3⟩ := row_load hro.at hK
          rw [Nat.zero_add] at h1
          exact ⟨_, y, u, rfl, h1, h2, h3⟩
        · exact hK.elim
    · exact hK.elim
  · rename_i i off
    unfold objA at hK
    split at hK
    · rename_i cs ho
      cases hx with
      | ptr _ _ hi =>
        obtain ⟨y, u, h1, h2, h3⟩ := row_load (r.heap.obj i _ ho) hK
        exact ⟨_, y, u, rfl, h1, h2, h3⟩
    · rename_i e m cs ho
      have hro : RowE w g e m cs (g.loc i) := r.heap.obj i _ ho
      cases hx with
      | ptr _ _ hi =>
        obtain ⟨y, u, h1, h2, h3⟩ := row_load hro.at hK
        exact ⟨_, y, u, rfl, h1, h2, h3⟩
    · exact hK.elim
  · rename_i k sz i off
    obtain ⟨b, c, n, hb, rfl⟩ := hx
    have hk := r.slots k
    unfold eltA at hK
    split at hK
    · rename_i m e sz' xs hsk
      rw [hsk] at hk
      obtain ⟨rfl, hi, hK⟩ := hK
      obtain ⟨hpos, hu, vs, hrow, hone, hrep, -⟩ := hk
      have hxi := List.getElem?_eq_getElem hi
      have hlen := hu _ (List.getElem_mem hi)
      have hfl := flat_length hu
      have hsub : ∀ j u, (xs[i].cells.drop off)[j]? = some u → (flat xs)[i * sz' + off + j]? = some u ∧ i * sz' + off + j < vs.length := fun j u hj => by
        rw [List.getElem?_drop] at hj
        have hlt : off + j < sz' := by
          rcases Nat.lt_or_ge (off + j) xs[i].cells.length with h | h
          · omega
          · simp [List.getElem?_eq_none h] at hj
        have h1 := flat_get hu hxi (off + j) hlt
        rw [← Nat.add_assoc, hj] at h1
        refine ⟨h1, ?_⟩
        rw [hrow.1, ← hfl]
        rcases Nat.lt_or_ge (i * sz' + off + j) (flat xs).length with h | h
        · exact h
        · rw [List.getElem?_eq_none h] at h1; cases h1
      have hb' : a.tmps.getD k undef = .slice (some ⟨b, 0, none⟩) n c := hb
      rcases hrow.2 with ⟨h0, -⟩ | hr2
      · rw [h0] at hb'; cases hb'
      obtain ⟨y, u, h1, h2, h3⟩ := load_cells (P := P) (w := w) (g := g) (b := b) (off := i * sz' + off) (vs := fun j => vs.getD (i * sz' + off + j) undef) (fun j u hj => by
        obtain ⟨q1, q2⟩ := hsub j u hj
        refine ⟨ownsRow_cell hrow hb' _ q2, hone _ ?_⟩
        rw [List.getD_eq_getElem?_getD, List.getElem?_eq_getElem q2]
        exact List.getElem_mem _) (fun j u hj => hrep _ u (hsub j u hj).1) (hK _ hxi)
      exact ⟨_, y, u, rfl, h1, h2, h3⟩
    · exact hK.elim
  · exact hK.elim

theorem sound_load {N : Nat} {t : TypeId} {p : Operand} (ho : o.op = .load t p) (r : R H w0 g0 s h g a w) (hN : a.tmps.size = N) (hd : ∀ d, o.dst = some d → d < N)
    (hK : atPlace s h (mv s p) fun cs => ofCells P t cs fun v => K v s h) : o.wp P a w (Aft N H w0 g0 o K) Q := by
  obtain ⟨ad, y, u, h1, h2, h3, h4⟩ := atPlace_load r (r.mv p).1 hK
  exact aft_rep r hN hd (by simp [execOp, ho, h1, Instr.loadAt, Instr.sureAddr, h2]) h3 h4

theorem sound_nilCheck {N : Nat} {x : Operand} (ho : o.op = .nilCheck x) (r : R H w0 g0 s h g a w) (hN : a.tmps.size = N) (hd : ∀ d, o.dst = some d → d < N)
    (hK : awpNc (mv s x) fun v => K v s h) : o.wp P a w (Aft N H w0 g0 o K) Q := by
  have hm := (r.mv x).1
  have fin : ∀ ad, a.eval x = .pointer (some ad) → K (mv s x) s h → o.wp P a w (Aft N H w0 g0 o K) Q := fun ad he hk =>
    aft_value r hN hd (v := a.eval x) (by simp [execOp, ho, he]) hm (fun b hb => by rw [(r.mv x).2] at hb; cases hb) hk
  unfold awpNc at hK
  split at hK
  · rename_i k off he
    rw [he] at hm
    obtain ⟨b, -, hv⟩ := hm
    exact fin _ hv hK
  · rename_i cs he
    rw [he] at hm
    have hm' : Rep w g (.eptr cs) (a.eval x) := hm
    generalize hv : a.eval x = v at hm'
    cases hm' with
    | eptr vs hr hs => exact fin _ hv hK
  · rename_i i off he
    rw [he] at hm
    have hm' : Rep w g (.ptr i off) (a.eval x) := hm
    generalize hv : a.eval x = v at hm'
    cases hm' with
    | ptr _ _ hi => exact fin _ hv hK
  · rename_i k sz i off he
    rw [he] at hm
    obtain ⟨b, c, n, -, hv⟩ := hm
    exact fin _ hv hK
  · exact hK.elim

theorem fieldOf_spec {t : TypeId} {f off ty : Nat} (hf : fieldOf P t f = some (off, ty)) : ∃ fs x i, P.underlying t = some (.struct fs) ∧ fs[f]? = some x ∧ x.offset = off ∧ x.type = ty ∧ P.info? ty = some i ∧ 0 < i.size := by
  unfold fieldOf at hf
  split at hf
  · rename_i fs hu
    split at hf
    · rename_i x hx
      split at hf
      · rename_i i hi
        split at hf
        · rename_i h0
          simp only [Option.some.injEq, Prod.mk.injEq] at hf
          obtain ⟨rfl, rfl⟩ := hf
          exact ⟨fs, x, i, hu, hx, rfl, rfl, hi, h0⟩
        · cases hf
      · cases hf
    · cases hf
  · cases hf

theorem addr_add (b o n : Nat) : (⟨b, o, none⟩ : Addr).add n = ⟨b, o + n, none⟩ := by
  unfold Addr.add; split
  · rename_i h0; subst h0; rfl
  · rfl

theorem sound_fieldAddr {N : Nat} {t : TypeId} {x : Operand} {f : Nat} (ho : o.op = .fieldAddr t x f) (r : R H w0 g0 s h g a w) (hN : a.tmps.size = N) (hd : ∀ d, o.dst = some d → d < N)
    (hK : awpFa (fieldOf P t f) (mv s x) fun v => K v s h) : o.wp P a w (Aft N H w0 g0 o K) Q := by
  have hm := (r.mv x).1
  unfold awpFa at hK
  split at hK
  · rename_i off ty hf
    obtain ⟨fs, fd, i, hu, hfs, rfl, rfl, hi, h0⟩ := fieldOf_spec hf
    have hrun : ∀ b o', a.eval x = .pointer (some ⟨b, o', none⟩) → (execOp a.eval o).run P w = .ok (.value (.pointer (some ⟨b, o' + fd.offset, none⟩))) w := fun b o' he => by
      have hne : ¬ i.size = 0 := by omega
      simp [execOp, ho, he, Instr.fieldAt, run_underlying hu, hfs, Instr.sureAddr, fieldPlace, run_sizeOf hi, hne, addr_add]
    split at hK
    · rename_i k off he
      rw [he] at hm
      obtain ⟨b, hb, hv⟩ := hm
      exact aft_value r hN hd (hrun b off hv) (x := .place k (off + fd.offset)) ⟨b, hb, rfl⟩ (fun b hb => by cases hb) hK
    · rename_i cs he
      rw [he] at hm
      have hm' : Rep w g (.eptr cs) (a.eval x) := hm
      generalize hv : a.eval x = v at hm'
      cases hm' with
      | @eptr _ b off vs hr hs =>
        refine aft_rep r hN hd (hrun b off hv) (.eptr (fun j => vs (fd.offset + j)) (fun j u hj => ?_) (fun j u hj => ?_)) hK
        · rw [List.getElem?_drop] at hj
          rw [Nat.add_assoc]; exact hr _ _ hj
        · rw [List.getElem?_drop] at hj; exact hs _ _ hj
    · rename_i k off he
      rw [he] at hm
      have hm' : Rep w g (.ptr k off) (a.eval x) := hm
      generalize hv : a.eval x = v at hm'
      cases hm' with
      | ptr _ _ hi => exact aft_rep r hN hd (hrun _ off hv) (.ptr k _ hi) hK
    · rename_i k sz i off he
      rw [he] at hm
      obtain ⟨b, c, n, hb, hv⟩ := hm
      exact aft_value r hN hd (hrun b _ hv) (x := .elt k sz i (off + fd.offset)) ⟨b, c, n, hb, by rw [Nat.add_assoc]⟩ (fun b hb => by cases hb) hK
    · exact hK.elim
  · exact hK.elim

/-- The value that lies in some cells of an aggregate. -/
theorem part_cells {t : TypeId} {cs : List AV} {vs : Array Value} {off : Nat} {KV : AV → Prop} (hl : vs.size = cs.length) (h1 : ∀ j, j < vs.size → (vs.getD j undef).oneCell' = true)
    (hs : ∀ j u, cs[j]? = some u → Rep w g u (vs.getD j undef)) (hK : ofCells P t (cs.drop off) KV) : ∃ y u, (part t vs off).run P w = .ok u w ∧ Rep w g y u ∧ KV y := by
  unfold ofCells at hK
  split at hK
  · rename_i d n hu hn
    have hn' : ∃ i, P.info? t = some i ∧ i.size = n := by
      unfold szT at hn
      cases hi : P.info? t with
      | none => simp [hi] at hn
      | some i => simp [hi] at hn; exact ⟨i, rfl, hn⟩
    obtain ⟨i, hi, rfl⟩ := hn'
    have agg : i.size ≤ (cs.drop off).length ∧ KV (.agg ((cs.drop off).take i.size)) → (isAgg t).run P w = .ok true w → ∃ y u, (part t vs off).run P w = .ok u w ∧ Rep w g y u ∧ KV y := by
      rintro ⟨hle, hK⟩ ha
      have hle' : off + i.size ≤ cs.length ∨ i.size = 0 := by simp at hle; omega
      refine ⟨_, .agg (vs.extract off (off + i.size)), by simp [part, ha, run_sizeOf hi], .agg ?_ (fun j hj => ?_) (fun j u hj => ?_), hK⟩
      · simp; rcases hle' with h | h <;> omega
      · simp at hj
        have := h1 (off + j) (by omega)
        have e : (vs.extract off (off + i.size)).getD j undef = vs.getD (off + j) undef := by
          simp only [Array.getD_eq_getD_getElem?, Array.getElem?_extract]
          rw [if_pos (by omega)]
        rw [e]; exact this
      · rw [List.getElem?_take] at hj
        split at hj
        · rename_i hjl
          rw [List.getElem?_drop] at hj
          have hlt : off + j < cs.length := by
            rcases Nat.lt_or_ge (off + j) cs.length with h | h
            · exact h
            · simp [List.getElem?_eq_none h] at hj
          have e : (vs.extract off (off + i.size)).getD j undef = vs.getD (off + j) undef := by
            simp only [Array.getD_eq_getD_getElem?, Array.getElem?_extract]
            rw [if_pos (by omega)]
          rw [e]; exact hs _ _ hj
        · cases hj
    split at hK
    · exact agg hK (by simp [isAgg, run_underlying hu])
    · exact agg hK (by simp [isAgg, run_underlying hu])
    · rename_i h1' h2'
      have ha : (isAgg t).run P w = .ok false w := by
        unfold isAgg
        simp only [Sem.run_bind, run_underlying hu, Result.andThen_ok]
        rfl
      obtain ⟨hlen, hK⟩ := hK
      have hlt : off < cs.length := by simp at hlen; omega
      have hx : (cs.drop off).head? = some cs[off] := by simp [List.head?_drop, hlt]
      refine ⟨val cs[off], vs.getD off undef, ?_, ?_, hK _ hx⟩
      · have hv : vs[off]? = some (vs.getD off undef) := by simp [Array.getD, hl, hlt]
        simp only [part, Sem.run_bind, ha, Result.andThen_ok, Bool.false_eq_true, if_false, hv]; rfl
      · have := hs off _ (List.getElem?_eq_getElem hlt)
        generalize cs[off] = c at this
        cases c <;> first | exact this | exact .any _
  · exact hK.elim

theorem sound_field {N : Nat} {t : TypeId} {x : Operand} {f : Nat} (ho : o.op = .field t x f) (r : R H w0 g0 s h g a w) (hN : a.tmps.size = N) (hd : ∀ d, o.dst = some d → d < N)
    (hK : awpField P (fieldOf P t f) (ev s x) fun v => K v s h) : o.wp P a w (Aft N H w0 g0 o K) Q := by
  have hm := r.eval x
  unfold awpField at hK
  split at hK
  · rename_i off ty cs hf he
    obtain ⟨fs, fd, i, hu, hfs, rfl, rfl, hi, h0⟩ := fieldOf_spec hf
    rw [he] at hm
    have hm' : Rep w g (.agg cs) (a.eval x) := hm
    generalize hv : a.eval x = v at hm'
    cases hm' with
    | @agg _ vs hl h1 hs =>
      obtain ⟨y, u, p1, p2, p3⟩ := part_cells hl h1 hs hK
      exact aft_rep r hN hd (by simp [execOp, ho, hv, Instr.field, run_underlying hu, hfs, asAgg, p1]) p2 p3
  · exact hK.elim

theorem sound_extractS {N : Nat} {tt : Operand} {i : Nat} (ho : o.op = .extract tt i) (r : R H w0 g0 s h g a w) (hN : a.tmps.size = N) (hd : ∀ d, o.dst = some d → d < N)
    (hK : awpExtS s (mv s tt) i fun v => K v s h) : o.wp P a w (Aft N H w0 g0 o K) Q := by
  obtain ⟨hm, -⟩ := r.mv tt
  have tup : ∀ (vs : List AV) (us : Array Value), a.eval tt = .tuple us → us.size = vs.length → (∀ j u, vs[j]? = some u → Rep w g u (us.getD j undef)) → i < vs.length → (∀ v, vs[i]? = some v → K (val v) s h) →
      o.wp P a w (Aft N H w0 g0 o K) Q := fun vs us hv hl hs hi hk => by
    have hu := hs i _ (List.getElem?_eq_getElem hi)
    refine aft_rep r hN hd (x := val vs[i]) (v := us.getD i undef) (by simp [execOp, ho, hv, Instr.extract, show i < us.size by omega, Array.getD]) ?_ (hk _ (List.getElem?_eq_getElem hi))
    exact rep_val (B := 0) (tm := fun _ => undef) (slotRep_of_rep (rep_shared hu) hu)
  unfold awpExtS at hK
  split at hK
  · rename_i k hmk
    rw [hmk] at hm
    have hev : a.eval tt = tmOf a k := hm
    have hsk := r.slots k
    unfold extAl at hK
    split at hK
    · rename_i i' m e sz xs rest hek
      rw [hek] at hsk
      obtain ⟨us, hus, hl, hs, hown⟩ := hsk
      have hus' : a.eval tt = .tuple us := hev.trans hus
      split at hK
      · rename_i hii
        subst hii
        have hi : i' < us.size := by
          rcases Nat.lt_or_ge i' us.size with h' | h'
          · exact h'
          · exfalso
            have : us.getD i' undef = undef := by simp [Array.getD_eq_getD_getElem?, Array.getElem?_eq_none h']
            rw [this] at hown
            obtain ⟨-, -, vs, ⟨-, h3⟩, -⟩ := hown
            rcases h3 with ⟨h3, -⟩ | ⟨gb, cap, cur, h3, -⟩ <;> cases h3
        refine aft_value r hN hd (x := .part k i') (v := us.getD i' undef) (by simp [execOp, ho, hus', Instr.extract, hi, Array.getD]) ⟨us, hus, rfl⟩ (fun b hb => by simp [privB] at hb) hK
      · exact tup rest us hus' hl hs hK.1 hK.2
    · rename_i vs hek
      rw [hek] at hsk
      have hsk' : Rep w g (.tup vs) (tmOf a k) := hsk
      unfold awpExt at hK
      generalize htk : tmOf a k = v at hsk' hev
      cases hsk' with
      | @tup _ us hl hs => exact tup vs us hev hl hs hK.1 hK.2
    · exact hK.elim
  · unfold awpExt at hK
    split at hK
    · rename_i vs hmv
      rw [hmv] at hm
      have hm' : Rep w g (.tup vs) (a.eval tt) := hm
      generalize hv : a.eval tt = v at hm'
      cases hm' with
      | @tup _ us hl hs => exact tup vs us hv hl hs hK.1 hK.2
    · exact hK.elim

theorem sound_extract {N : Nat} {t : Operand} {i : Nat} {vs : List AV} (ho : o.op = .extract t i) (r : R H w0 g0 s h g a w) (hN : a.tmps.size = N) (hd : ∀ d, o.dst = some d → d < N)
    (he : ev s t = .tup vs) (hi : i < vs.length) (hK : ∀ v, vs[i]? = some v → K (val v) s h) : o.wp P a w (Aft N H w0 g0 o K) Q := by
  have hp := r.eval t
  rw [he] at hp
  generalize hv : a.eval t = v at hp
  cases hp with
  | @tup _ ws hl hs =>
    have h1 := hs i _ (List.getElem?_eq_getElem hi)
    have hw : i < ws.size := by omega
    refine aft_rep (v := ws.getD i undef) r hN hd ?_ (x := val vs[i]) ?_ (hK _ (List.getElem?_eq_getElem hi))
    · simp [execOp, ho, hv, Instr.extract, hw, Array.getD]
    · generalize vs[i] = x at h1
      cases x <;> first | exact h1 | exact .any _

theorem sound_builtin {N : Nat} {b : Builtin} {ts : Array TypeId} {os : Array Operand} (ho : o.op = .call { callee := .builtin b, args := os, argTypes := ts }) (r : R H w0 g0 s h g a w) (hN : a.tmps.size = N) (hd : ∀ d, o.dst = some d → d < N)
    (hK : awpBuiltin P b ts os.toList s h K) : o.wp P a w (Aft N H w0 g0 o K) Q := by
  unfold awpBuiltin at hK
  have hargs : ∀ (l : List Operand), os.toList = l → os.map a.eval = (l.map a.eval).toArray := fun l hl => by subst hl; apply Array.ext'; simp
  split at hK
  · rename_i o' hos
    have hl := r.look o'
    have hA := hargs _ hos
    unfold lenA at hK
    split at hK
    · rename_i bs he
      rw [he] at hl
      obtain ⟨ht, hK⟩ := hK
      obtain ⟨t0, ht0, htu⟩ := Option.bind_eq_some_iff.1 ht
      refine aft_rep r hN hd ?_ (.v rfl) hK
      simp [execOp, ho, resolve, invoke, builtin, hA, hl.1, Builtin.len_, ht0, run_underlying htu, goInt]
    · rename_i he
      rw [he] at hl
      obtain ⟨ht, hK⟩ := hK
      obtain ⟨d, hd', hm⟩ := (Option.any_eq_true _ _).1 ht
      obtain ⟨t0, ht0, htu⟩ := Option.bind_eq_some_iff.1 hd'
      refine aft_rep r hN hd ?_ (.v rfl) hK
      cases d <;> simp at hm
      simp [execOp, ho, resolve, invoke, builtin, hA, hl.1, Builtin.len_, ht0, run_underlying htu, goInt]
    · rename_i sz xs he
      rw [he] at hl
      obtain ⟨bb, n, c, hev, hn, -⟩ := hl
      obtain ⟨ht, hK⟩ := hK
      obtain ⟨d, hd', hm⟩ := (Option.any_eq_true _ _).1 ht
      obtain ⟨t0, ht0, htu⟩ := Option.bind_eq_some_iff.1 hd'
      refine aft_rep r hN hd ?_ (.v rfl) hK
      cases d <;> simp at hm
      simp [execOp, ho, resolve, invoke, builtin, hA, hev, Builtin.len_, ht0, run_underlying htu, goInt, hn]
    · rename_i id off m cc he
      rw [he] at hl
      obtain ⟨bb, n, c, hev, hn, -⟩ := hl
      obtain ⟨ht, hK⟩ := hK
      obtain ⟨d, hd', hm⟩ := (Option.any_eq_true _ _).1 ht
      obtain ⟨t0, ht0, htu⟩ := Option.bind_eq_some_iff.1 hd'
      refine aft_rep r hN hd ?_ (.v rfl) hK
      cases d <;> simp at hm
      simp [execOp, ho, resolve, invoke, builtin, hA, hev, Builtin.len_, ht0, run_underlying htu, goInt, hn]
    · exact hK.elim
  · rename_i x y hos
    have hA := hargs _ hos
    have hx := r.eval x
    have hy := r.eval y
    unfold maxA at hK
    split at hK
    · rename_i k i k' j ex ey
      rw [ex] at hx; rw [ey] at hy
      obtain ⟨rfl, hK⟩ := hK
      refine aft_rep r hN hd ?_ (.v rfl) hK
      simp [execOp, ho, resolve, invoke, builtin, hA, (rep_v hx).1, (rep_v hy).1, run_max_int2]
    · exact hK.elim
  · rename_i x y hos
    have hA := hargs _ hos
    have hx := r.eval x
    have hy := r.eval y
    unfold minA at hK
    split at hK
    · rename_i k i k' j ex ey
      rw [ex] at hx; rw [ey] at hy
      obtain ⟨rfl, hK⟩ := hK
      refine aft_rep r hN hd ?_ (.v rfl) hK
      simp [execOp, ho, resolve, invoke, builtin, hA, (rep_v hx).1, (rep_v hy).1, run_min_int2]
    · exact hK.elim
  · exact hK.elim

end
end Go.Vm
