/- Each operation does what the interpreter says of it: pieces of slices, what is appended, what is made. -/
import Derived.Test.YthfbpdipilajoaaGreatDoorVmG
import Derived.Deep.AppendSrc
import Derived.Laws.MakeOwn
set_option linter.unusedVariables false
set_option linter.unusedSimpArgs false
namespace Go.Vm
open Go.RowKit

section
variable {P : Program} {H : Hst} {w0 w w' : World} {g0 g g' : Gh} {s : Slots} {h h' : Heap} {a : Act} {o : Oper} {K : AV → Slots → Heap → Prop} {Q : Exit → Act → World → Prop}

theorem sound_un {N : Nat} {op : UnOp} {t : TypeId} {x : Operand} (ho : o.op = .unOp op t x) (r : R H w0 g0 s h g a w) (hN : a.tmps.size = N) (hd : ∀ d, o.dst = some d → d < N)
    (hK : awpUn op (ev s x) fun v => K (.v v) s h) : o.wp P a w (Aft N H w0 g0 o K) Q := by
  have hx := r.eval x
  unfold awpUn at hK
  split at hK
  · rename_i b he
    rw [he] at hx
    exact aft_rep r hN hd (by simp [execOp, ho, (rep_v hx).1, Op.unary]) (.v rfl) hK
  · rename_i k n he
    rw [he] at hx
    exact aft_rep r hN hd (by simp [execOp, ho, (rep_v hx).1, Op.unary, Op.intArith]) (.v rfl) hK
  · rename_i k n he
    rw [he] at hx
    exact aft_rep r hN hd (by simp [execOp, ho, (rep_v hx).1, Op.unary, intBits_xor]) (.v rfl) hK
  · exact hK.elim

theorem bound_val {d n : Int} {x : Option Operand} (r : R H w0 g0 s h g a w) (hb : boundOf d (x.map (ev s)) = some n) :
    (x = none ∧ n = d) ∨ ∃ y k, x = some y ∧ a.eval y = .int k n := by
  cases x with
  | none => simp [boundOf] at hb; exact .inl ⟨rfl, hb.symm⟩
  | some y =>
    have hy := r.eval y
    simp only [Option.map_some] at hb
    unfold boundOf at hb
    split at hb
    · rename_i e; cases e
    · rename_i k m e
      simp only [Option.some.injEq] at e hb
      subst hb
      rw [e] at hy
      exact .inr ⟨y, k, rfl, (rep_v hy).1⟩
    · cases hb

theorem flat_append (xs ys : List AV) : flat (xs ++ ys) = flat xs ++ flat ys := List.flatMap_append ..

theorem flat_take {xs : List AV} {sz : Nat} (hu : ∀ x ∈ xs, x.cells.length = sz) (m : Nat) (hm : m ≤ xs.length) : flat (xs.take m) = (flat xs).take (m * sz) ∧ flat (xs.drop m) = (flat xs).drop (m * sz) := by
  have hfl : flat xs = flat (xs.take m) ++ flat (xs.drop m) := by rw [← flat_append, List.take_append_drop]
  have hlen : (flat (xs.take m)).length = m * sz := by
    rw [flat_length (sz := sz) fun x hx => hu x (List.mem_of_mem_take hx)]; simp [hm]
  constructor
  · rw [hfl]; exact (List.take_left' hlen).symm
  · conv => rhs; rw [hfl]
    exact (List.drop_left' hlen).symm

theorem flat_slice {xs : List AV} {sz : Nat} (hu : ∀ x ∈ xs, x.cells.length = sz) (l m : Nat) (hl : l ≤ m) (hm : m ≤ xs.length) (j : Nat) (u : AV) (hj : (flat ((xs.take m).drop l))[j]? = some u) :
    (flat xs)[l * sz + j]? = some u := by
  rw [(flat_take (xs := xs.take m) (sz := sz) (fun x hx => hu x (List.mem_of_mem_take hx)) l (by simp; omega)).2, (flat_take hu m hm).1, List.getElem?_drop, List.getElem?_take] at hj
  split at hj
  · exact hj
  · cases hj

/-- A piece of what is represented. -/
theorem rep_slice {sz : Nat} {xs : List AV} {b : Option Addr} {c : Nat} (hr : Rep w g (.sl sz xs) (.slice b xs.length c)) (l m k : Nat) (hl : l ≤ m) (hm : m ≤ xs.length) (hk : m ≤ k) (hkc : k ≤ c) :
    Rep w g (.sl sz ((xs.take m).drop l)) (sliced b l m k sz) := by
  have hlen : ((xs.take m).drop l).length = m - l := by simp; omega
  generalize hv : Value.slice b xs.length c = v at hr
  cases hr with
  | nil =>
    simp only [Value.slice.injEq] at hv
    obtain ⟨rfl, -, rfl⟩ := hv
    obtain rfl : k = 0 := by omega
    obtain rfl : m = 0 := by omega
    obtain rfl : l = 0 := by omega
    simpa [sliced] using Rep.nil (w := w) (g := g) sz
  | empty _ ad c' hc' =>
    simp only [Value.slice.injEq] at hv
    obtain ⟨rfl, -, rfl⟩ := hv
    simp only [List.length_nil] at hm
    obtain rfl : m = 0 := by omega
    obtain rfl : l = 0 := by omega
    have := Rep.empty (w := w) (g := g) sz (if k = 0 then ad else ad.add (0 * sz)) k (by omega)
    unfold sliced
    by_cases h0 : k = 0
    · subst h0; simpa using Rep.empty (w := w) (g := g) sz ad 0 (Nat.zero_le _)
    · simp only [h0, if_false, Option.map_some, Nat.zero_mul, Nat.sub_zero, List.take_nil, List.drop_nil]
      exact .empty sz _ k (by omega)
  | @sl _ _ bb o c' vs hc hcm hsz hu hcell hs =>
    simp only [Value.slice.injEq] at hv
    obtain ⟨rfl, -, rfl⟩ := hv
    have hadd : (⟨bb, o, none⟩ : Addr).add (l * sz) = ⟨bb, o + l * sz, none⟩ := by
      unfold Addr.add; split
      · rename_i h0; rw [h0]; rfl
      · rfl
    unfold sliced
    by_cases hkl : k = l
    · have h0 : (xs.take m).drop l = [] := List.eq_nil_of_length_eq_zero (by omega)
      rw [h0, hkl, show m - l = 0 by omega]
      simp only [if_true, Nat.sub_self]
      exact .empty sz _ 0 (Nat.zero_le _)
    · simp only [hkl, if_false, Option.map_some, hadd]
      rw [← hlen]
      refine .sl (fun j => vs (l * sz + j)) (by omega) (by omega) hsz (fun x hx => hu x (List.mem_of_mem_take (List.mem_of_mem_drop hx))) (fun j u hj => ?_) (fun j u hj => hs _ _ (flat_slice hu l m hl hm j u hj))
      rw [Nat.add_assoc]
      exact hcell _ _ (flat_slice hu l m hl hm j u hj)

theorem rep_sl_shape {sz : Nat} {xs : List AV} {v : Value} (hr : Rep w g (.sl sz xs) v) : ∃ b c, v = .slice b xs.length c ∧ xs.length ≤ c := by
  cases hr with
  | nil => exact ⟨_, _, rfl, Nat.le_refl _⟩
  | empty => exact ⟨_, _, rfl, Nat.zero_le _⟩
  | sl vs hc => exact ⟨_, _, rfl, hc⟩

theorem sound_slice {N : Nat} {t : TypeId} {x : Operand} {lo hi mx : Option Operand} (ho : o.op = .slice t x lo hi mx) (r : R H w0 g0 s h g a w) (hN : a.tmps.size = N) (hd : ∀ d, o.dst = some d → d < N)
    (hK : awpSlice P t (frz s x).1 (lo.map (ev s)) (hi.map (ev s)) (mx.map (ev s)) fun v => K v (frz s x).2 h) : o.wp P a w (Aft N H w0 g0 o K) Q := by
  obtain ⟨g1, r1, k1, p1, n1⟩ := r.frz x
  unfold awpSlice at hK
  split at hK
  · rename_i sz xs hx
    rw [hx] at p1
    split at hK
    · rename_i e sz' l m hes hl hm
      obtain ⟨rfl, ⟨h0, h1, h2⟩, hmx, hK⟩ := hK
      obtain ⟨hu, inf, hinf, hisz⟩ := elemSz_spec hes
      obtain ⟨b, c, hv, hc⟩ := rep_sl_shape p1
      rw [hv] at p1
      have hue : P.underlying t = some (.slice (P.elem t)) := by
        have : P.elem t = e := by simp [Program.elem, hu]
        rw [this]; exact hu
      have hse : (sizeOf (P.elem t)).run P w = .ok sz' w := by
        have : P.elem t = e := by simp [Program.elem, hu]
        rw [this, run_sizeOf hinf, hisz]
      have fin : ∀ k : Nat, m.toNat ≤ k → k ≤ c → (Instr.sliceAt t (a.eval x) (lo.map a.eval) (hi.map a.eval) (mx.map a.eval)).run P w = .ok (sliced b l.toNat m.toNat k sz') w → o.wp P a w (Aft N H w0 g0 o K) Q := by
        intro k hk hkc hrun
        refine aft_world r1 hN hd (by simp only [execOp, ho, Sem.run_bind, hrun, Result.andThen_ok]; rfl) (slotRep_of_rep rfl (rep_slice p1 l.toNat m.toNat k (by omega) (by omega) hk hkc)) (fun b hb => by cases hb) hK
      rw [hv] at fin
      simp only [run_sliceAt_slice w t _ _ _ _ hue] at fin
      rcases bound_val r hl with ⟨hlo, rfl⟩ | ⟨yl, kl, hlo, hel⟩ <;> rcases bound_val r hm with ⟨hhi, rfl⟩ | ⟨yh, kh, hhi, heh⟩ <;> subst hlo <;> subst hhi
      · cases mx with
        | none =>
          refine fin c (by omega) (Nat.le_refl _) ?_
          rw [show Option.map a.eval none = none from rfl, run_slice_all w t b xs.length c hue, hse]; simp
        | some y => simp at hmx
      · cases mx with
        | none =>
          refine fin c (by omega) (Nat.le_refl _) ?_
          simp only [Option.map_none, Option.map_some, heh]
          rw [run_slice_h w t b xs.length c hue kh m (by omega) (by omega), hse]; rfl
        | some y => simp at hmx
      · cases mx with
        | none =>
          refine fin c (by omega) (Nat.le_refl _) ?_
          simp only [Option.map_none, Option.map_some, hel]
          rw [run_slice_l w t b xs.length c hue kl l (by omega) (by omega), hse]; simp
        | some y => simp at hmx
      · cases mx with
        | none =>
          refine fin c (by omega) (Nat.le_refl _) ?_
          simp only [Option.map_none, Option.map_some, hel, heh]
          rw [run_slice_lh w t b xs.length c hue kl kh l m h0 h1 (by omega), hse]; rfl
        | some y =>
          simp only [Option.map_some] at hmx
          obtain ⟨-, -, hmx⟩ := hmx
          split at hmx
          · rename_i q hq
            have hq' : boundOf 0 ((some y).map (ev s)) = some q := hq
            rcases bound_val r hq' with ⟨e, -⟩ | ⟨ym, km, hym, hem⟩
            · cases e
            · cases hym
              refine fin q.toNat (by omega) (by omega) ?_
              simp only [Option.map_some, hel, heh, hem]
              rw [run_slice_lhm w t b xs.length c hue kl kh km l m q h0 h1 hmx.1 (by omega), hse]; rfl
          · exact hmx.elim
    · exact hK.elim
  · rename_i id off n c hx
    rw [hx] at p1
    split at hK
    · rename_i e sz' l m hes hl hm
      obtain ⟨hmx, ⟨h0, h1, h2⟩, hK1, hK2⟩ := hK
      have hmx' : mx = none := by cases mx <;> simp_all
      subst hmx'
      obtain ⟨hu, inf, hinf, hisz⟩ := elemSz_spec hes
      generalize hv : a.eval x = v at p1
      have hue : P.underlying t = some (.slice (P.elem t)) := by
        have : P.elem t = e := by simp [Program.elem, hu]
        rw [this]; exact hu
      have hse : (sizeOf (P.elem t)).run P w = .ok sz' w := by
        have : P.elem t = e := by simp [Program.elem, hu]
        rw [this, run_sizeOf hinf, hisz]
      cases p1 with
      | osl _ _ _ _ hid hc hcm =>
        have fin : (Instr.sliceAt t (a.eval x) (lo.map a.eval) (hi.map a.eval) none).run P w = .ok (sliced (some ⟨g1.loc id, off, none⟩) l.toNat m.toNat c sz') w → o.wp P a w (Aft N H w0 g0 o K) Q := by
          intro hrun
          by_cases hlc : l = 0 ∨ l < c
          · refine aft_world r1 hN hd (by simp only [execOp, ho, Sem.run_bind, Option.map_none, hrun, Result.andThen_ok]; rfl) (slotRep_of_rep rfl ?_) (fun b hb => by cases hb) (hK1 hlc)
            have he : sliced (some ⟨g1.loc id, off, none⟩) l.toNat m.toNat c sz' = .slice (some ⟨g1.loc id, off + l.toNat * sz', none⟩) (m.toNat - l.toNat) (c - l.toNat) := by
              unfold sliced
              by_cases hcl : c = l.toNat
              · have hl0 : l = 0 := by omega
                subst hl0; simp [hcl]
              · simp [hcl, addr_add]
            rw [he]
            exact .osl id _ _ _ hid (by omega) (by omega)
          · refine aft_world r1 hN hd (by simp only [execOp, ho, Sem.run_bind, Option.map_none, hrun, Result.andThen_ok]; rfl) (slotRep_of_rep rfl ?_) (fun b hb => by cases hb) (hK2 hlc)
            have he : sliced (some ⟨g1.loc id, off, none⟩) l.toNat m.toNat c sz' = .slice (some ⟨g1.loc id, off, none⟩) 0 0 := by
              unfold sliced
              have hcl : c = l.toNat := by omega
              have hml : m.toNat = l.toNat := by omega
              simp [hcl, hml]
            rw [he]
            exact .empty sz' _ 0 (Nat.zero_le _)
        rw [hv] at fin
        simp only [run_sliceAt_slice w t _ _ _ _ hue] at fin
        rcases bound_val r hl with ⟨hlo, rfl⟩ | ⟨yl, kl, hlo, hel⟩ <;> rcases bound_val r hm with ⟨hhi, rfl⟩ | ⟨yh, kh, hhi, heh⟩ <;> subst hlo <;> subst hhi
        · refine fin ?_
          rw [show Option.map a.eval none = none from rfl, run_slice_all w t _ n c hue, hse]; simp
        · refine fin ?_
          simp only [Option.map_none, Option.map_some, heh]
          rw [run_slice_h w t _ n c hue kh m (by omega) (by omega), hse]; rfl
        · refine fin ?_
          simp only [Option.map_none, Option.map_some, hel]
          rw [run_slice_l w t _ n c hue kl l (by omega) (by omega), hse]; simp
        · refine fin ?_
          simp only [Option.map_none, Option.map_some, hel, heh]
          rw [run_slice_lh w t _ n c hue kl kh l m h0 h1 (by omega), hse]; rfl
    · exact hK.elim
  · rename_i bs hx
    rw [hx] at p1
    have hv := (rep_v p1).1
    split at hK
    · rename_i l m hl hm
      obtain ⟨hu, hmx, ⟨h0, h1, h2⟩, hK⟩ := hK
      have hmx' : mx = none := by cases mx <;> simp_all
      subst hmx'
      have fin : (Instr.sliceAt t (.string bs) (lo.map a.eval) (hi.map a.eval) none).run P w = .ok (.string (bs.extract l.toNat m.toNat)) w → o.wp P a w (Aft N H w0 g0 o K) Q := by
        intro hrun
        refine aft_world r1 hN hd (by simp only [execOp, ho, Sem.run_bind, hv, Option.map_none, hrun, Result.andThen_ok]; rfl) (slotRep_of_rep rfl (.v rfl)) (fun b hb => by cases hb) hK
      rw [run_sliceAt_string w t _ _ _ _ hu] at fin
      rcases bound_val r hl with ⟨hlo, rfl⟩ | ⟨yl, kl, hlo, hel⟩ <;> rcases bound_val r hm with ⟨hhi, rfl⟩ | ⟨yh, kh, hhi, heh⟩ <;> subst hlo <;> subst hhi <;> apply fin
      · simp_all [Instr.slice, run_underlying hu, Instr.sliceBounds, run_sliceBound]
      · simp_all [Instr.slice, run_underlying hu, Instr.sliceBounds, run_sliceBound]
      · simp_all [Instr.slice, run_underlying hu, Instr.sliceBounds, run_sliceBound]
      · have e1 := run_sliceBound (P := P) w kh m bs.size .sliceAlen (by omega) h2
        have e2 := run_sliceBound (P := P) w kl l m.toNat .sliceB h0 (by omega)
        simp only [Option.map_some, hel, heh]
        simp [Instr.slice, run_underlying hu, Instr.sliceBounds, e1, e2]
    · exact hK.elim
  · exact hK.elim

theorem elemIn_spec {t : TypeId} {e sz bs : Nat} (h : elemIn P t = some (e, sz, bs)) : P.underlying t = some (.slice e) ∧ ∃ i z, P.info? e = some i ∧ i.zero = some z ∧ z.cells.size = i.size ∧ i.size = sz ∧ i.bytes = bs ∧ 0 < sz := by
  unfold elemIn at h
  split at h
  · rename_i e' hu
    split at h
    · rename_i i hi
      split at h
      · rename_i z hz
        split at h
        · rename_i hc
          simp only [Option.some.injEq, Prod.mk.injEq] at h
          obtain ⟨rfl, rfl, rfl⟩ := h
          exact ⟨hu, i, z, hi, hz, hc.1, rfl, rfl, hc.2⟩
        · cases h
      · cases h
    · cases h
  · cases h

/-- A block that no slot holds and no object is in: its cells change, but for those that were published. -/
theorem R.rewrite (r : R H w0 g0 s h g a w) {b e : Nat} {cur cur' : Array Value} {fr : Nat × Nat} (hp : ∀ i, privB (s i) (tmOf a i) ≠ some b) (hl : ∀ k, k < g.n → g.loc k ≠ b) (hB : w0.heap.size ≤ b)
    (hg : w.heap[b]? = some (.cells cur e fr)) (hsame : ∀ j v, j < g.pub b → cur[j]? = some v → cur'[j]? = some v) : R H w0 g0 s h g a (w.setRow b cur') ∧ Keeps w g (w.setRow b cur') g := by
  have hsz : (w.setRow b cur').heap.size = w.heap.size := by simp [World.setRow]
  have hk : Keeps w g (w.setRow b cur') g := ⟨fun _ => Nat.le_refl _, fun k j v hj hv => by
    by_cases hb : k = b
    · subst hb
      rw [cell_setRow_same w k j cur cur' e fr hg]
      rw [cell_of_row w k j cur e fr hg] at hv
      exact hsame j v hj hv
    · rw [World.cell?_of_block (a := ⟨k, j, none⟩) (setRow_other w b k cur' hb)]; exact hv, Nat.le_refl _, fun _ _ => rfl⟩
  refine ⟨r.world hk rfl (fun i k hk' => ⟨setRow_other w b k cur' fun e => hp i (e ▸ hk'), rfl⟩) (fun i hi => ⟨setRow_other w b _ cur' (hl i hi), rfl⟩) ?_ (by rw [hsz]; exact Nat.le_refl _) (fun _ _ => rfl) (fun k hk' => r.fresh k (by rw [hsz] at hk'; exact hk')), hk⟩
  exact ⟨r.frame.os, r.frame.tape, r.frame.output, by rw [hsz]; exact r.frame.size, fun k hk' hno => by rw [setRow_other w b k cur' (by omega)]; exact r.frame.block k hk' hno⟩

theorem keeps_alloc (r : R H w0 g0 s h g a w) (x : Obj) : Keeps w g (w.alloc x) g := ⟨fun b => Nat.le_refl _, fun b j v hj hv => by
  have hb : b < w.heap.size := by
    rcases Nat.lt_or_ge b w.heap.size with h' | h'
    · exact h'
    · have := r.fresh b h'; omega
  rw [World.cell?_of_block (a := ⟨b, j, none⟩) (Below.heap_alloc w _ b hb)]; exact hv, Nat.le_refl _, fun _ _ => rfl⟩

theorem keeps_drew (w : World) (g : Gh) : Keeps w g w.drew g := ⟨fun b => Nat.le_refl _, fun b j v hj hv => hv, Nat.le_refl _, fun _ _ => rfl⟩

/-- What an 'append' reads. -/
theorem src_sound {tx sz : Nat} {y : Operand} {KY : List AV → Prop} (r : R H w0 g0 s h g a w) (hsz : 0 < sz) (hK : srcOf P tx sz (look s (ev s y)) KY) :
    ∃ ys news, KY ys ∧ ((∀ c ∈ ys, c.cells.length = sz) → Src P sz tx (a.eval y) ys.length news w ∧ ∀ j u, (flat ys)[j]? = some u → Rep w g u (news.getD j undef)) := by
  have hv := r.eval y
  have fromOwn : ∀ (m : Bool) (e sz' : Nat) (xs : List AV) (v : Value), v = a.eval y → OwnRep w g w0.heap.size m e sz' xs v → (∃ e', P.underlying tx = some (.slice e')) → sz' = sz → KY xs →
      ∃ ys news, KY ys ∧ ((∀ c ∈ ys, c.cells.length = sz) → Src P sz tx (a.eval y) ys.length news w ∧ ∀ j u, (flat ys)[j]? = some u → Rep w g u (news.getD j undef)) := by
    rintro m e sz' xs v hve ⟨q1, q2, vs, q3, q4, q5, q6⟩ ⟨e', he'⟩ rfl hk
    refine ⟨xs, vs, hk, fun _ => ⟨?_, q5⟩⟩
    rw [← hve]
    rcases q3.2 with ⟨rfl, h0⟩ | ⟨gb, cap, cur, rfl, b1, b2, b3, b4, b5, b6⟩
    · have hx : xs = [] := List.eq_nil_of_length_eq_zero h0
      subst hx
      have : vs = [] := List.eq_nil_of_length_eq_zero (by simpa using q3.1)
      subst this
      exact Src.ofNil w he' 0
    · refine Src.ofSlice w he' ⟨gb, 0, none⟩ xs.length cap vs q3.1 (fun j u hu => ?_) q4
      have hj : j < vs.length := by
        rcases Nat.lt_or_ge j vs.length with h' | h'
        · exact h'
        · simp [List.getElem?_eq_none h'] at hu
      have hc := ownsRow_cell q3 rfl j hj
      have e : (⟨gb, 0, none⟩ : Addr).add j = ⟨gb, j, none⟩ := by
        unfold Addr.add; split
        · rename_i h0; subst h0; rfl
        · simp
      rw [e, hc, List.getD_eq_getElem?_getD, hu]; rfl
  have sliceT : ((P.underlying tx).any fun d => d matches .slice _) = true → ∃ e', P.underlying tx = some (.slice e') := fun ht => by
    obtain ⟨d, hd, hm⟩ := (Option.any_eq_true _ _).1 ht
    cases d <;> simp at hm
    exact ⟨_, hd⟩
  unfold srcOf at hK
  split at hK
  · rename_i sz' ys hl
    obtain ⟨rfl, ht, hk⟩ := hK
    obtain ⟨e', he'⟩ := sliceT ht
    cases hx : ev s y with
    | own m e sz2 xs =>
      rw [hx] at hv hl
      simp only [Vm.look, AV.sl.injEq] at hl
      obtain ⟨rfl, rfl⟩ := hl
      exact fromOwn m e _ _ _ rfl hv ⟨e', he'⟩ rfl hk
    | alias k =>
      rw [hx] at hv hl
      have hkk := r.slots k
      simp only [Vm.look] at hl
      cases hsk : s k with
      | own m e sz2 xs =>
        rw [hsk] at hkk hl
        simp only [lookAl, AV.sl.injEq] at hl
        obtain ⟨rfl, rfl⟩ := hl
        exact fromOwn m e _ _ (tmOf a k) (show tmOf a k = a.eval y from (show a.eval y = tmOf a k from hv).symm) hkk ⟨e', he'⟩ rfl hk
      | _ => rw [hsk] at hl; simp [lookAl] at hl
    | sl sz2 xs =>
      rw [hx] at hv hl
      simp only [Vm.look, AV.sl.injEq] at hl
      obtain ⟨rfl, rfl⟩ := hl
      have hv' : Rep w g (.sl sz2 xs) (a.eval y) := hv
      generalize a.eval y = v at hv'
      cases hv' with
      | nil => exact ⟨[], [], hk, fun _ => ⟨Src.ofNil w he' 0, by simp [flat]⟩⟩
      | empty _ ad c hc => exact ⟨[], [], hk, fun _ => ⟨Src.ofSlice w he' ad 0 c [] (by simp) (by simp) (by simp), by simp [flat]⟩⟩
      | @sl _ _ b off c vs hc hm hsz' hu hr hs =>
        have hfl := flat_length hu
        refine ⟨xs, (List.range (xs.length * sz2)).map vs, hk, fun _ => ⟨Src.ofSlice w he' ⟨b, off, none⟩ xs.length c _ (by simp) (fun j u hj => ?_) (fun u hu' => ?_), fun j u hj => ?_⟩⟩
        · have hjl : j < xs.length * sz2 := by
            rcases Nat.lt_or_ge j (xs.length * sz2) with h' | h'
            · exact h'
            · rw [List.getElem?_eq_none (by simpa using h')] at hj; cases hj
          have e : (⟨b, off, none⟩ : Addr).add j = ⟨b, off + j, none⟩ := by
            unfold Addr.add; split
            · rename_i h0; subst h0; rfl
            · rfl
          rw [e, (hr j _ (List.getElem?_eq_getElem (by omega))).1]
          simp [hjl] at hj; rw [hj]
        · obtain ⟨j, hj, rfl⟩ := List.mem_map.1 hu'
          exact (hr j _ (List.getElem?_eq_getElem (by rw [hfl]; simpa using hj))).2.2
        · have hjl : j < xs.length * sz2 := by
            rw [← hfl]
            rcases Nat.lt_or_ge j (flat xs).length with h' | h'
            · exact h'
            · rw [List.getElem?_eq_none h'] at hj; cases hj
          simpa [List.getD_eq_getElem?_getD, hjl] using hs j u hj
    | _ => rw [hx] at hl; simp [Vm.look] at hl
  · rename_i hl
    obtain ⟨ht, hk⟩ := hK
    obtain ⟨e', he'⟩ := sliceT ht
    have hlk := r.look y
    rw [hl] at hlk
    rw [hlk.1]
    exact ⟨[], [], hk, fun _ => ⟨Src.ofNil w he' 0, by simp [flat]⟩⟩
  · rename_i b hl
    obtain ⟨rfl, ht, hk⟩ := hK
    have hlk := r.look y
    rw [hl] at hlk
    rw [hlk.1]
    have hflat : ∀ l : List UInt8, flat (l.map encB) = l.map encB := fun l => by
      induction l with
      | nil => rfl
      | cons y ys ih => simp only [flat, List.map_cons, List.flatMap_cons] at ih ⊢; rw [ih]; rfl
    refine ⟨_, byteCells b, hk, fun _ => ⟨?_, fun j u hj => ?_⟩⟩
    · have := Src.ofString (P := P) w ht b
      simpa using this
    · rw [hflat] at hj
      simp only [List.getElem?_map, Option.map_eq_some_iff] at hj
      obtain ⟨c, hc, rfl⟩ := hj
      simp only [byteCells, List.getD_eq_getElem?_getD, List.getElem?_map, hc, Option.map_some, Option.getD_some]
      exact .v rfl
  · exact hK.elim

theorem sound_append {N : Nat} {x y : Operand} {os : Array Operand} {ts : Array TypeId} {t tx : TypeId} (ho : o.op = .call { callee := .builtin .append, args := os, argTypes := ts }) (hos : os.toList = [x, y]) (hts : ts.toList = [t, tx])
    (r : R H w0 g0 s h g a w) (hN : a.tmps.size = N) (hd : ∀ d, o.dst = some d → d < N)
    (hK : awpAppend P t tx (tk s x) (fun s' => look s' (ev s' y)) fun v s' => K v s' h) : o.wp P a w (Aft N H w0 g0 o K) Q := by
  obtain ⟨htk, hpr⟩ := r.tk x
  have r1 := r.le (le_tk s x)
  have hA : os = #[x, y] := by cases os; simp_all
  have hT : ts = #[t, tx] := by cases ts; simp_all
  unfold awpAppend at hK
  split at hK
  · rename_i e sz bs he
    obtain ⟨hu, inf, z, hinf, hz, hzs, hisz, hib, hsz⟩ := elemIn_spec he
    subst hisz; subst hib
    -- what is appended to: nil, or a block of the call's own
    have main : ∀ (m : Bool) (xs : List AV), OwnRep w g w0.heap.size m e inf.size xs (a.eval x) → (∀ b, (a.eval x).ownBlock = some b → (∀ i, privB ((tk s x).2 i) (tmOf a i) ≠ some b) ∧ ∀ k, k < g.n → g.loc k ≠ b) →
        (srcOf P tx inf.size (look (tk s x).2 (ev (tk s x).2 y)) fun ys => (∀ c ∈ ys, c.cells.length = inf.size) ∧ (xs.length + ys.length) * (inf.bytes + 1) ≤ 140737488355328 ∧ K (.own m e inf.size (xs ++ ys)) (tk s x).2 h) →
        o.wp P a w (Aft N H w0 g0 o K) Q := by
      rintro m xs ⟨q1, q2, vs, q3, q4, q5, q6⟩ hpr hK
      obtain ⟨ys, news, ⟨hyl, hbd, hk⟩, hsrc⟩ := src_sound r1 hsz hK
      obtain ⟨hsrc, hnews⟩ := hsrc hyl
      have hln := hsrc.newsLen
      have hvl := q3.1
      have hfx := flat_length q2
      have hfy := flat_length hyl
      have hbd1 : (xs.length + ys.length) * inf.bytes ≤ 140737488355328 := Nat.le_trans (Nat.mul_le_mul_left _ (Nat.le_succ _)) hbd
      have hbd2 : xs.length + ys.length ≤ 140737488355328 := by
        have : (xs.length + ys.length) * 1 ≤ (xs.length + ys.length) * (inf.bytes + 1) := Nat.mul_le_mul_left _ (by omega)
        omega
      have huni : ∀ c ∈ xs ++ ys, c.cells.length = inf.size := fun c hc => by
        rcases List.mem_append.1 hc with hc | hc
        · exact q2 c hc
        · exact hyl c hc
      have hone : ∀ u ∈ vs ++ news, u.oneCell' = true := fun u hu' => by
        rcases List.mem_append.1 hu' with hu' | hu'
        · exact q4 u hu'
        · exact hsrc.one u hu'
      have hall : ∀ {w2 : World} {g2 : Gh}, Keeps w g w2 g2 → ∀ j u, (flat (xs ++ ys))[j]? = some u → Rep w2 g2 u ((vs ++ news).getD j undef) := fun {w2 g2} hkp j u hj => by
        rw [flat_append] at hj
        rw [List.getD_eq_getElem?_getD]
        rcases Nat.lt_or_ge j (flat xs).length with hlt | hge
        · rw [List.getElem?_append_left hlt] at hj
          rw [List.getElem?_append_left (by omega)]
          simpa [List.getD_eq_getElem?_getD] using (q5 j u hj).keep hkp
        · rw [List.getElem?_append_right hge] at hj
          rw [List.getElem?_append_right (by omega), show j - vs.length = j - (flat xs).length by omega]
          simpa [List.getD_eq_getElem?_getD] using (hnews _ u hj).keep hkp
      have hex : ∀ v w', (Builtin.append_ #[t, tx] o.type #[a.eval x, a.eval y]).run P w = .ok v w' → (execOp a.eval o).run P w = .ok (.value v) w' := fun v w' hv => by
        simp [execOp, ho, hA, hT, resolve, invoke, builtin, hv]
      -- a new block
      have grow : ∀ (b : Option Addr) (c : Nat), a.eval x = .slice b xs.length c → c < xs.length + ys.length → (Builtin.firstCells inf.size xs.length (.slice b xs.length c)).run P w.drew = .ok vs.toArray w.drew →
          o.wp P a w (Aft N H w0 g0 o K) Q := by
        intro b c hv hc hold
        have hrun := run_append_grow_src (P := P) w t tx o.type e inf z hu hinf hz b xs.length c vs hold (a.eval y) ys.length news hsrc hc (by omega) (growslice_fits hc hbd1)
        rw [← hv] at hrun
        have hcm : grownCap w (xs.length + ys.length) c e ≤ maxLen := grownCap_le_maxLen w _ c e (by unfold maxLen; omega)
        have hge := grownCap_ge w (xs.length + ys.length) c e
        have r2 := (r1.drew).alloc (.cells ((vs ++ news).toArray ++ Builtin.zeroCells z.cells (grownCap w (xs.length + ys.length) c e - (xs.length + ys.length))) e)
        have hkp := (keeps_drew w g).trans (keeps_alloc r1.drew (.cells ((vs ++ news).toArray ++ Builtin.zeroCells z.cells (grownCap w (xs.length + ys.length) c e - (xs.length + ys.length))) e))
        have hnew := r1.drew.sep_new
        refine aft_world r2 hN hd (hex _ _ hrun) (x := .own m e inf.size (xs ++ ys)) ?_ (fun b' hb' => ?_) hk
        · refine ⟨hsz, huni, vs ++ news, ?_, hone, hall hkp, fun b' hb' => ?_⟩
          · rw [List.length_append]
            refine ⟨by rw [List.length_append, hvl, hln, Nat.add_mul], .inr ⟨w.heap.size, _, _, rfl, r1.frame.size, heap_alloc_new w.drew _, hge, hcm, ?_, ?_⟩⟩
            · simp only [Array.size_append, List.size_toArray, List.length_append, size_zeroCells, hzs, hvl, hln, ← Nat.add_mul]
              congr 1; omega
            · simp only [Array.toList_append]
              have : (xs.length + ys.length) * inf.size = (vs ++ news).length := by rw [List.length_append, hvl, hln, Nat.add_mul]
              rw [this]; exact List.take_left
          · simp only [Value.ownBlock, Option.some.injEq] at hb'
            subst hb'
            have : g.pub w.heap.size = 0 := r1.fresh _ (Nat.le_refl _)
            rw [this]; exact Nat.zero_le _
        · simp only [privB, Value.ownBlock, Option.some.injEq] at hb'
          subst hb'
          exact hnew
      rcases q3.2 with ⟨hv, h0⟩ | ⟨gb, cap, cur, hv, b1, b2, b3, b4, b5, b6⟩
      · have hx0 : xs = [] := List.eq_nil_of_length_eq_zero h0
        subst hx0
        have hvs : vs = [] := List.eq_nil_of_length_eq_zero (by simpa using hvl)
        subst hvs
        by_cases hy : ys.length = 0
        · have hy0 : ys = [] := List.eq_nil_of_length_eq_zero hy
          subst hy0
          have hn0 : news = [] := List.eq_nil_of_length_eq_zero (by simpa using hln)
          subst hn0
          refine aft_value r1 hN hd (hex (.slice none 0 0) w ?_) (x := .own m e inf.size []) ?_ (fun b hb => by simp [privB, Value.ownBlock] at hb) (by simpa using hk)
          · have hl := hsrc.len w
            have hc := hsrc.cells
            simp only [List.length_nil] at hl hc
            rw [hv]
            rcases hsrc.kind with ⟨e', hk'⟩ | hk' <;> simp [Builtin.append_, run_underlying hu, run_underlying hk', sizeOf, typeInfo, hinf, hl, hc]
          · exact ⟨hsz, by simp, [], World.ownsRow_nil _ _ _ _, by simp, by simp [flat], fun b hb => by simp [Value.ownBlock] at hb⟩
        · exact grow none 0 (by simpa using hv) (by simp; omega) (by simpa using run_firstCells_none (P := P) w.drew inf.size 0 0 0)
      · by_cases hroom : xs.length + ys.length ≤ cap
        · -- in place
          obtain ⟨p1, p2⟩ := hpr gb (by rw [hv]; rfl)
          have hpub := q6 gb (by rw [hv]; rfl)
          have hvtake : ∀ j v, cur[j]? = some v → j < xs.length * inf.size → vs[j]? = some v := fun j v hj hlt => by
            have : (cur.toList.take (xs.length * inf.size))[j]? = some v := by rw [List.getElem?_take, if_pos hlt]; simpa using hj
            rw [b6] at this; exact this
          have hfit : xs.length * inf.size + news.length ≤ cur.size := by rw [hln, b5, ← Nat.add_mul]; exact Nat.mul_le_mul_right _ hroom
          have hst := run_storeCells_at P gb (xs.length * inf.size) e news 0 cur w b2 (by simpa using hfit) hsrc.one
          have hrun : (Builtin.append_ #[t, tx] o.type #[a.eval x, a.eval y]).run P w = .ok (.slice (some ⟨gb, 0, none⟩) (xs.length + ys.length) cap) (w.setRow gb (cur.toList.take (xs.length * inf.size) ++ news ++ cur.toList.drop (xs.length * inf.size + news.length)).toArray) := by
            simp only [Nat.add_zero] at hst
            rw [hv]
            rcases hsrc.kind with ⟨e', hk'⟩ | hk' <;> simp [Builtin.append_, run_underlying hu, run_underlying hk', sizeOf, typeInfo, hinf, hsrc.len, hroom, hsrc.cells, Addr.add_lit, hst]
          have hcur' : (cur.toList.take (xs.length * inf.size) ++ news ++ cur.toList.drop (xs.length * inf.size + news.length)) = vs ++ news ++ cur.toList.drop (xs.length * inf.size + news.length) := by rw [b6]
          obtain ⟨r2, hkp⟩ := r1.rewrite (cur' := (cur.toList.take (xs.length * inf.size) ++ news ++ cur.toList.drop (xs.length * inf.size + news.length)).toArray) p1 p2 b1 b2 (fun j v hj hcj => by
            have hjl : j < xs.length * inf.size := by split at hpub <;> omega
            rw [hcur']
            simp only [List.getElem?_toArray, List.append_assoc]
            rw [List.getElem?_append_left (by omega)]
            exact hvtake j v hcj hjl)
          refine aft_world r2 hN hd (hex _ _ hrun) (x := .own m e inf.size (xs ++ ys)) ?_ (fun b' hb' => ?_) hk
          · refine ⟨hsz, huni, vs ++ news, ?_, hone, hall hkp, fun b' hb' => ?_⟩
            · rw [List.length_append]
              refine ⟨by rw [List.length_append, hvl, hln, Nat.add_mul], .inr ⟨gb, cap, _, rfl, b1, setRow_heap w gb cur _ e _ b2, hroom, b4, ?_, ?_⟩⟩
              · rw [hcur']; simp only [List.size_toArray, List.length_append, List.length_drop, Array.length_toList]; omega
              · rw [hcur']
                have : (xs.length + ys.length) * inf.size = (vs ++ news).length := by rw [List.length_append, hvl, hln, Nat.add_mul]
                rw [this]; exact List.take_left
            · simp only [Value.ownBlock, Option.some.injEq] at hb'
              subst hb'
              rw [List.length_append]
              split at hpub
              · rename_i hm; simp [hm]; omega
              · rename_i hm; rw [if_neg hm, Nat.add_mul]; omega
          · simp only [privB, Value.ownBlock, Option.some.injEq] at hb'
            subst hb'
            exact ⟨p1, p2⟩
        · have hold : (Builtin.firstCells inf.size xs.length (.slice (some ⟨gb, 0, none⟩) xs.length cap)).run P w.drew = .ok vs.toArray w.drew := by
            refine run_firstCells_some w.drew inf.size xs.length ⟨gb, 0, none⟩ xs.length cap vs hvl (fun j u hj => ?_)
            have hjl : j < vs.length := by
              rcases Nat.lt_or_ge j vs.length with h' | h'
              · exact h'
              · simp [List.getElem?_eq_none h'] at hj
            have hc := ownsRow_cell q3 hv j hjl
            have e' : (⟨gb, 0, none⟩ : Addr).add j = ⟨gb, j, none⟩ := by
              unfold Addr.add; split
              · rename_i h0; subst h0; rfl
              · simp
            rw [e']
            show w.cell? _ = _
            rw [hc, List.getD_eq_getElem?_getD, hj]; rfl
          exact grow _ cap hv (by omega) hold
    unfold appTo at hK
    split at hK
    · rename_i m e' sz' xs s' hp
      rw [hp] at htk hpr main
      obtain ⟨rfl, rfl, hK⟩ := hK
      exact main m xs htk hpr hK
    · rename_i s' hp
      rw [hp] at htk main
      have hv : a.eval x = .slice none 0 0 := (rep_v (rep_of_slotRep rfl htk)).1
      refine main true [] ?_ (fun b hb => by rw [hv] at hb; cases hb) hK
      rw [hv]
      exact ⟨hsz, by simp, [], World.ownsRow_nil _ _ _ _, by simp, by simp [flat], fun b hb => by simp [Value.ownBlock] at hb⟩
    · exact hK.elim
  · exact hK.elim

theorem flat_replicate (y : AV) : ∀ n j, j < n * y.cells.length → (flat (List.replicate n y))[j]? = y.cells[j % y.cells.length]?
  | 0, j, h => by simp at h
  | n + 1, j, h => by
    simp only [List.replicate_succ, flat, List.flatMap_cons]
    rcases Nat.lt_or_ge j y.cells.length with hlt | hge
    · rw [List.getElem?_append_left hlt, Nat.mod_eq_of_lt hlt]
    · rw [List.getElem?_append_right hge]
      have e : j % y.cells.length = (j - y.cells.length) % y.cells.length := by
        conv => lhs; rw [← Nat.sub_add_cancel hge]
        rw [Nat.add_mod_right]
      rw [e]
      exact flat_replicate y n _ (by rw [Nat.add_mul] at h; omega)

theorem cst_cells {z : Value} (hz : plain z = true ∨ ∃ cs, z = .agg cs ∧ cs.all plain = true) : (cst z).cells = z.cells.toList.map AV.v ∧ ∀ u ∈ z.cells.toList, plain u = true := by
  rcases hz with hz | ⟨cs, rfl, hc⟩
  · have h1 : cst z = .v z := by
      unfold cst; split
      · simp [plain] at hz
      · simp [plain] at hz
      · simp [hz]
    have h2 : z.cells = #[z] := by cases z <;> first | rfl | simp [plain] at hz
    rw [h1, h2]
    exact ⟨rfl, fun u hu => by simp at hu; subst hu; exact hz⟩
  · refine ⟨by simp [cst, hc, AV.cells, Value.cells], fun u hu => ?_⟩
    have : ∀ j (hj : j < cs.size), plain cs[j] = true := fun j hj => Array.all_eq_true.1 hc j hj
    have hu' : u ∈ cs.toList := hu
    obtain ⟨j, hj, rfl⟩ := List.getElem_of_mem hu'
    have := this j (by simpa using hj)
    simpa using this

theorem sound_make {N : Nat} {t : TypeId} {l c : Operand} (ho : o.op = .makeSlice t l c) (r : R H w0 g0 s h g a w) (hN : a.tmps.size = N) (hd : ∀ d, o.dst = some d → d < N)
    (hK : awpMake P t (ev s l) (ev s c) fun v => K v s h) : o.wp P a w (Aft N H w0 g0 o K) Q := by
  have hl := r.eval l
  have hc := r.eval c
  unfold awpMake at hK
  split at hK
  · rename_i e sz bs kl n kc m he el ec
    rw [el] at hl; rw [ec] at hc
    obtain ⟨⟨h0, h1, h2, h3⟩, hK⟩ := hK
    obtain ⟨hu, inf, z, hinf, hz, hzs, hisz, hib, hsz⟩ := elemIn_spec he
    subst hisz; subst hib
    obtain ⟨hpl, hK⟩ := hK z (by simp [hinf, hz])
    obtain ⟨hcc, hcp⟩ := cst_cells hpl
    have hcl : (cst z).cells.length = inf.size := by rw [hcc]; simp [hzs]
    have hb : (inf.bytes : Int) * m ≤ 281474976710656 := by rw [Int.mul_comm]; omega
    have hrun := run_make (P := P) w t e inf z hu hinf hz kl kc n m h0 h1 hb h2
    have hex : (execOp a.eval o).run P w = .ok (.value (.slice (some ⟨w.heap.size, 0, none⟩) n.toNat m.toNat)) (w.alloc (.cells (madeCells z.cells (m.toNat * inf.size)) e)) := by
      simp only [execOp, ho, Sem.run_bind, (rep_v hl).1, (rep_v hc).1, hrun, Result.andThen_ok]; rfl
    have hmade : ∀ j, j < m.toNat * inf.size → (madeCells z.cells (m.toNat * inf.size))[j]? = z.cells[j % inf.size]? := fun j hj => by
      have hmod : j % inf.size < z.cells.size := by rw [hzs]; exact Nat.mod_lt _ hsz
      simp only [madeCells, Array.getElem?_map, Array.getElem?_range, hj, if_true, Option.map_some, hzs]
      rw [getElem!_pos _ _ (by rw [hzs]; exact Nat.mod_lt _ hsz), Array.getElem?_eq_getElem hmod]
    have hle : n.toNat * inf.size ≤ m.toNat * inf.size := Nat.mul_le_mul_right _ (by omega)
    have hvs : ∀ j, j < n.toNat * inf.size → ((madeCells z.cells (m.toNat * inf.size)).toList.take (n.toNat * inf.size))[j]? = z.cells[j % inf.size]? := fun j hj => by
      rw [List.getElem?_take, if_pos hj]
      rw [Array.getElem?_toList, hmade j (by omega)]
    refine aft_world (r.alloc _) hN hd hex (x := .own true e inf.size (List.replicate n.toNat (cst z))) ?_ (fun b hb => ?_) hK
    · refine ⟨hsz, fun x hx => by rw [List.eq_of_mem_replicate hx]; exact hcl, (madeCells z.cells (m.toNat * inf.size)).toList.take (n.toNat * inf.size), ?_, fun u hu' => ?_, fun j u hj => ?_, fun b hb => ?_⟩
      · rw [List.length_replicate]
        refine ⟨by rw [List.length_take, Array.length_toList, size_madeCells]; omega, .inr ⟨w.heap.size, m.toNat, _, rfl, r.frame.size, heap_alloc_new w _, by omega, by unfold maxLen; omega, size_madeCells _ _, rfl⟩⟩
      · obtain ⟨j, hj, rfl⟩ := List.getElem_of_mem hu'
        have hj' : j < n.toNat * inf.size := by rw [List.length_take] at hj; omega
        have := hvs j hj'
        rw [List.getElem?_eq_getElem hj] at this
        have hmod : j % inf.size < z.cells.size := by rw [hzs]; exact Nat.mod_lt _ hsz
        rw [Array.getElem?_eq_getElem hmod] at this
        simp only [Option.some.injEq] at this
        rw [this]
        exact plain_oneCell (hcp _ (by simp))
      · have hfl : (flat (List.replicate n.toNat (cst z))).length = n.toNat * inf.size := by
          rw [flat_length (sz := inf.size) fun x hx => by rw [List.eq_of_mem_replicate hx]; exact hcl]; simp
        have hj' : j < n.toNat * inf.size := by
          rw [← hfl]
          rcases Nat.lt_or_ge j (flat (List.replicate n.toNat (cst z))).length with h' | h'
          · exact h'
          · rw [List.getElem?_eq_none h'] at hj; cases hj
        rw [flat_replicate _ _ _ (by rw [hcl]; exact hj'), hcl, hcc] at hj
        have hmod : j % inf.size < z.cells.size := by rw [hzs]; exact Nat.mod_lt _ hsz
        rw [List.getD_eq_getElem?_getD, hvs j hj', Array.getElem?_eq_getElem hmod]
        simp [hmod] at hj
        subst hj
        exact .v (hcp _ (by simp))
      · simp only [Value.ownBlock, Option.some.injEq] at hb
        subst hb
        rw [r.fresh _ (Nat.le_refl _)]; exact Nat.zero_le _
    · simp only [privB, Value.ownBlock, Option.some.injEq] at hb
      subst hb
      exact r.sep_new
  · exact hK.elim

end
end Go.Vm
