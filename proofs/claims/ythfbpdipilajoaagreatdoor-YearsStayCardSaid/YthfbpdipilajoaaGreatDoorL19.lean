/- Pairs sorted, in place: by the kit's law on Go's own sort. -/
import Derived.Test.YthfbpdipilajoaaGreatDoorL18
import Derived.Test.YthfbpdipilajoaaGreatDoorShelf
set_option linter.unusedSimpArgs false
set_option linter.unusedVariables false
namespace Go.Proofs.Lx
open Go.Vm Go.RowKit
open Go.Sort (SWO flatK HoldsK)

/-! The order of bytes. -/
theorem cb_self : ∀ a, Lib.compareBytes a a = 0
  | [] => rfl
  | x :: a => by simp [Lib.compareBytes, cb_self a]
theorem cb_trans : ∀ a b c, Lib.compareBytes a b < 0 → Lib.compareBytes b c < 0 → Lib.compareBytes a c < 0
  | [], [], c, h, _ => by simp [Lib.compareBytes] at h
  | [], y :: b, [], _, h => by simp [Lib.compareBytes] at h
  | [], y :: b, z :: c, _, _ => by simp [Lib.compareBytes]
  | x :: a, [], c, h, _ => by simp [Lib.compareBytes] at h
  | x :: a, y :: b, [], _, h => by simp [Lib.compareBytes] at h
  | x :: a, y :: b, z :: c, h1, h2 => by
    have ih := cb_trans a b c
    simp only [Lib.compareBytes] at h1 h2 ⊢
    simp only [UInt8.lt_iff_toNat_lt] at h1 h2 ⊢
    split at h1 <;> split at h2
    · rw [if_pos (by omega)]; decide
    · split at h2
      · simp at h2
      · rw [if_pos (by omega)]; decide
    · split at h1
      · simp at h1
      · rw [if_pos (by omega)]; decide
    · split at h1
      · simp at h1
      · split at h2
        · simp at h2
        · rw [if_neg (by omega), if_neg (by omega)]; exact ih h1 h2
theorem cb_eq : ∀ a b, ¬ Lib.compareBytes a b < 0 → ¬ Lib.compareBytes b a < 0 → a = b
  | [], [], _, _ => rfl
  | [], y :: b, h, _ => by simp [Lib.compareBytes] at h
  | x :: a, [], _, h => by simp [Lib.compareBytes] at h
  | x :: a, y :: b, h1, h2 => by
    have ih := cb_eq a b
    simp only [Lib.compareBytes] at h1 h2
    simp only [UInt8.lt_iff_toNat_lt] at h1 h2
    by_cases c1 : x.toNat < y.toNat
    · rw [if_pos c1] at h1; simp at h1
    · by_cases c2 : y.toNat < x.toNat
      · rw [if_pos c2] at h2; simp at h2
      · rw [if_neg c1, if_neg c2] at h1
        rw [if_neg c2, if_neg c1] at h2
        have : x = y := UInt8.toNat_inj.1 (by omega)
        rw [this, ih h1 h2]
theorem cb_asymm (a b : List UInt8) (h : Lib.compareBytes a b < 0) : ¬ Lib.compareBytes b a < 0 := fun h2 => by
  have := cb_trans a b a h h2
  rw [cb_self] at this; omega

theorem swo_keys {α : Type} (key : α → List UInt8) : SWO (ltOf fun x y => Lib.compareBytes (key x) (key y)) := by
  refine ⟨fun x => by simp [ltOf, cb_self], fun x y z h1 h2 => ?_, fun x y z h1 h2 => ?_⟩
  · simp only [ltOf, decide_eq_true_eq] at h1 h2 ⊢; exact cb_trans _ _ _ h1 h2
  · simp only [ltOf, decide_eq_false_iff_not] at h1 h2 ⊢
    intro h3
    by_cases h4 : Lib.compareBytes (key y) (key x) < 0
    · exact h2 (cb_trans _ _ _ h4 h3)
    · have := cb_eq _ _ h1 h4
      rw [this] at h3; exact h2 h3

/-- The world behind a sort. -/
theorem sortW_heap {α : Type} [Inhabited α] (enc : α → List Value) (w : World) (b m : Nat) (dk : Array α) (os : Array Obj) :
    (∀ k, k < w.heap.size → k ≠ b → (sortWorldK enc 2 w b 0 m dk os).heap[k]? = w.heap[k]?) ∧ w.heap.size ≤ (sortWorldK enc 2 w b 0 m dk os).heap.size ∧
      ∀ vs e fr, w.heap[b]? = some (.cells vs e fr) → (sortWorldK enc 2 w b 0 m dk os).heap[b]? = some (.cells (Sort.putCells id 0 (flatK enc 2 dk) vs) e fr) := by
  have hs : (Sort.putRow id (Sort.ahead w m) b 0 (flatK enc 2 dk)).heap.size = w.heap.size := by simp [Sort.putRow, Sort.mapBlock, Sort.ahead]
  have hg : ∀ k, k < w.heap.size → (sortWorldK enc 2 w b 0 m dk os).heap[k]? = (w.heap.modify b (Sort.onCells (Sort.putCells id 0 (flatK enc 2 dk))))[k]? := fun k hk => by
    show ((Sort.putRow id (Sort.ahead w m) b 0 (flatK enc 2 dk)).heap ++ os)[k]? = _
    rw [Array.getElem?_append_left (by rw [hs]; exact hk)]; rfl
  refine ⟨fun k hk hne => ?_, ?_, fun vs e fr hb => ?_⟩
  · rw [hg k hk, Array.getElem?_modify, if_neg (fun e => hne e.symm)]
  · show w.heap.size ≤ ((Sort.putRow id (Sort.ahead w m) b 0 (flatK enc 2 dk)).heap ++ os).size
    rw [Array.size_append, hs]; omega
  · rw [hg b (lt_of_heap hb), Array.getElem?_modify, if_pos rfl, hb]; rfl

def sortPSpec : Vm.Spec := fun args h Q => ∃ (l : List KV) (h0 : Heap) (c e : Nat), args = [.osl h0.length 0 l.length c, .clo 124 []] ∧ h = h0 ++ [.row e (c * 2) (flat (l.map kvAv))] ∧ (l.map Prod.fst).Nodup ∧ l.length < 4611686018427387904 ∧ l.length ≤ c ∧
  ∀ l' : List KV, l'.Perm l → l'.Pairwise (fun a b => Lib.compareBytes a.1 b.1 < 0) → Q (.tup []) (h0 ++ [.row e (c * 2) (flat (l'.map kvAv))])

theorem flat_kv (l : List KV) (i r : Nat) (hi : i < l.length) (hr : r < 2) : (flat (l.map kvAv))[i * 2 + r]? = (kvAv l[i]).cells[r]? :=
  flat_get (fun x hx => by obtain ⟨p, -, rfl⟩ := List.mem_map.1 hx; rfl) (by rw [List.getElem?_map, List.getElem?_eq_getElem hi]; rfl) r hr

theorem get!_toArray_fin {n : Nat} [Inhabited (Fin n)] (d : List (Fin n)) (i : Nat) (hi : i < d.length) : (d.toArray)[i]! = d[i] := by
  rw [getElem!_pos d.toArray i (by simpa using hi)]; simp

theorem does_sortP : Does Tryz.prog 123 sortPSpec := by
  refine ⟨⟨Tryz.f123, Tryz.func123, by kernel_rfl, by decide +kernel⟩, ?_⟩
  rintro args h Q ⟨l, h0, c, e, rfl, rfl, hnd, hln, hlc, hq⟩ w g vs hvs hrep hh hfr hlaid
  have hm : h0.length < g.n := by rw [← hh.n]; simp
  generalize hb : g.loc h0.length = b
  have hrow : RowE w g e (c * 2) (flat (l.map kvAv)) b := by
    have : ObjRep w g (.row e (c * 2) (flat (l.map kvAv))) (g.loc h0.length) := hh.obj h0.length _ (heap_last _ _)
    rw [hb] at this; exact this
  have hblt : b < w.heap.size := by rw [← hb]; exact hh.lt _ hm
  have hv0 : vs.getD 0 undef = .slice (some ⟨b, 0, none⟩) l.length c := by
    have := hrep 0 _ rfl
    generalize vs.getD 0 undef = v at this
    cases this with | osl => rw [hb]
  have hv1 : vs.getD 1 undef = .func (.func 124) #[] #[] := by
    have := hrep 1 _ rfl
    generalize vs.getD 1 undef = v at this
    cases this with | @clo _ _ cv hl hs => rw [Array.eq_empty_of_size_eq_zero (xs := cv) (by simpa using hl)]
  have hvs2 : vs = #[.slice (some ⟨b, 0, none⟩) l.length c, .func (.func 124) #[] #[]] := by
    have h2 : vs.size = 2 := hvs
    apply Array.ext
    · simpa using h2
    · intro i hi1 hi2
      have : i = 0 ∨ i = 1 := by omega
      rcases this with rfl | rfl
      · simpa [Array.getD, h2] using hv0
      · simpa [Array.getD, h2] using hv1
  subst hvs2
  -- what holds behind it, by where the cells went
  have fin : ∀ (w' : World) (l' : List KV), l'.Perm l → l'.Pairwise (fun a b => Lib.compareBytes a.1 b.1 < 0) → w'.os = w.os ∧ w'.tape = w.tape ∧ w'.output = w.output → w.heap.size ≤ w'.heap.size → (∀ k, k < w.heap.size → k ≠ b → w'.heap[k]? = w.heap[k]?) →
      (Keeps w g w' g → RowE w' g e (c * 2) (flat (l'.map kvAv)) b) →
      ∃ r h' g' v, Q r h' ∧ Ending.returned (.tuple #[]) = .returned v ∧ ResRep w' g' w.heap.size r v ∧ HeapRep w' g' h' ∧ Vm.Frame w g w' ∧
        g.n ≤ g'.n ∧ (∀ i, i < g.n → g'.loc i = g.loc i) ∧ (∀ b, b < w.heap.size → g'.pub b = g.pub b) ∧ (∀ i, i < g'.n → g.n ≤ i → w.heap.size ≤ g'.loc i) ∧ (∀ b, w'.heap.size ≤ b → g'.pub b = 0) := fun w' l' hp hs hw hsz hblk hrow' => by
    have hpub : g.pub b = 0 := by obtain ⟨-, -, -, -, h4, -⟩ := hrow; exact h4
    have hk : Keeps w g w' g := ⟨fun _ => Nat.le_refl _, fun k j v hj hv => by
      have hkb : k ≠ b := fun e => by rw [e, hpub] at hj; omega
      have hkl : k < w.heap.size := by
        rcases Nat.lt_or_ge k w.heap.size with h | h
        · exact h
        · rw [hfr k h] at hj; omega
      rw [World.cell?_of_block (a := ⟨k, j, none⟩) (hblk k hkl hkb)]; exact hv, Nat.le_refl _, fun _ _ => rfl⟩
    refine ⟨.tup [], h0 ++ [.row e (c * 2) (flat (l'.map kvAv))], g, .tuple #[], hq l' hp hs, rfl, .tup rfl (fun j u hu => by simp at hu), ?_, ?_, Nat.le_refl _, fun _ _ => rfl, fun _ _ => rfl, fun i hi h1 => by omega, fun k hk' => hfr k (Nat.le_trans hsz hk')⟩
    · refine ⟨by rw [← hh.n]; simp, fun i hi => Nat.lt_of_lt_of_le (hh.lt i hi) hsz, hh.inj, fun i o ho => ?_⟩
      rcases Nat.lt_or_ge i h0.length with hi | hi
      · rw [List.getElem?_append_left hi] at ho
        have hig : i < g.n := by omega
        have hne : g.loc i ≠ b := fun e => by
          have := hh.inj i h0.length hig hm (e.trans hb.symm)
          omega
        exact (hh.obj i o (by rw [List.getElem?_append_left hi]; exact ho)).keepAt hk ⟨hblk _ (hh.lt i hig) hne, rfl⟩
      · have hie : i = h0.length := by
          rcases Nat.lt_or_ge i (h0.length + 1) with h | h
          · omega
          · rw [List.getElem?_eq_none (by simp; omega)] at ho; cases ho
        subst hie
        rw [heap_last] at ho
        cases ho
        show RowE _ _ _ _ _ (g.loc h0.length)
        rw [hb]; exact hrow' hk
    · exact ⟨hw.1, hw.2.1, hw.2.2, hsz, fun k hk' hno => hblk k hk' fun e => hno _ hm (hb.trans e.symm)⟩
  by_cases hn : l.length = 0
  · have hl : l = [] := List.eq_nil_of_length_eq_zero hn
    subst hl
    refine (AnyF.slices_SortFunc_none Tryz.sortPair (some ⟨b, 0, none⟩) c _ w).mono ?_
    rintro e' w' ⟨rfl, rfl⟩
    exact fin w' [] (.refl _) .nil ⟨rfl, rfl, rfl⟩ (Nat.le_refl _) (fun _ _ _ => rfl) fun _ => hrow
  · obtain ⟨cur, a1, a2, a3, a4, a5, a6⟩ := hrow
    have hi : Inhabited (Fin l.length) := ⟨⟨0, by omega⟩⟩
    have hfl : (flat (l.map kvAv)).length = l.length * 2 := by
      rw [flat_length (sz := 2) (fun x hx => by obtain ⟨p, -, rfl⟩ := List.mem_map.1 hx; rfl), List.length_map]
    let enc : Fin l.length → List Value := fun i => [cur.getD (i.1 * 2) undef, cur.getD (i.1 * 2 + 1) undef]
    have henc : ∀ (i : Fin l.length) (r : Nat), r < 2 → (enc i)[r]! = cur.getD (i.1 * 2 + r) undef := fun i r hr => by
      have : r = 0 ∨ r = 1 := by omega
      rcases this with rfl | rfl <;> rfl
    let cf : Fin l.length → Fin l.length → Int := fun i j => Lib.compareBytes l[i].1 l[j].1
    have hcell : ∀ j, j < l.length * 2 → (cur.getD j undef).oneCell' = true := fun j hj => a5 j (by omega)
    have hrepc : ∀ (i : Fin l.length) (r : Nat) (u : AV), r < 2 → (kvAv l[i]).cells[r]? = some u → Rep w g u (cur.getD (i.1 * 2 + r) undef) := fun i r u hr hu => a6 _ u (by rw [flat_kv l i.1 r i.2 hr]; exact hu)
    have h1 : ∀ x, ∀ v ∈ enc x, v.oneCell' = true := fun x v hv => by
      have hx := x.2
      simp only [enc, List.mem_cons, List.not_mem_nil, or_false] at hv
      rcases hv with rfl | rfl
      · exact hcell _ (by omega)
      · exact hcell _ (by omega)
    have hkW : ∀ m dk os, Keeps w g (sortWorldK enc 2 w b 0 m dk os) g := fun m dk os => by
      obtain ⟨q1, q2, q3⟩ := sortW_heap enc w b m dk os
      exact ⟨fun _ => Nat.le_refl _, fun k j v hj hv => by
        have hkb : k ≠ b := fun e => by rw [e, a4] at hj; omega
        have hkl : k < w.heap.size := by
          rcases Nat.lt_or_ge k w.heap.size with h | h
          · exact h
          · rw [hfr k h] at hj; omega
        rw [World.cell?_of_block (a := ⟨k, j, none⟩) (q1 k hkl hkb)]; exact hv, Nat.le_refl _, fun _ _ => rfl⟩
    have hcmp : CmpLays Tryz.prog 124 #[] enc 2 cf b 0 (List.finRange l.length).toArray.size w := fun m os dk _ x y => by
      have hx := x.2
      have hy := y.2
      have r1 := (hrepc x 0 (.sl 1 (l[x].1.map encB)) (by decide) rfl).keep (hkW m dk os)
      have r2 := (hrepc y 0 (.sl 1 (l[y].1.map encB)) (by decide) rfl).keep (hkW m dk os)
      have := closure_calls (sortWorldK enc 2 w b 0 m dk os) (cur.getD (x.1 * 2) undef) (cur.getD (x.1 * 2 + 1) undef) (cur.getD (y.1 * 2) undef) (cur.getD (y.1 * 2 + 1) undef) l[x].1 l[y].1
        (bytesAt_rep r1) (bytesAt_rep r2) (hcell _ (by omega)) (hcell _ (by omega)) (hcell _ (by omega)) (hcell _ (by omega))
      exact this
    have hdsz : (List.finRange l.length).toArray.size = l.length := by simp
    have hdg : ∀ i, (hi : i < l.length) → (List.finRange l.length).toArray[i]! = ⟨i, hi⟩ := fun i hi => by
      rw [getElem!_pos _ i (by simpa using hi)]; simp
    have hH : HoldsK enc 2 w b 0 (List.finRange l.length).toArray := fun j hj => by
      rw [Sort.size_flatK, hdsz] at hj
      rw [Nat.zero_add]
      refine ⟨?_, ?_⟩
      · rw [cell_of_row w b j cur e (0, 0) a1, Sort.get_flatK _ _ _ _ (by rw [hdsz]; exact hj), hdg _ (by omega), henc _ _ (by omega)]
        have e1 : j / 2 * 2 + j % 2 = j := by omega
        rw [e1]
        simp [Array.getD, show j < cur.size by omega]
      · simp [World.frozen?, a1]
    have hT : ∀ x y : Fin l.length, (ltOf cf) x y = false → (ltOf cf) y x = false → x = y := fun x y hx hy => by
      simp only [ltOf, decide_eq_false_iff_not] at hx hy
      have := cb_eq _ _ hx hy
      have hp := List.pairwise_iff_getElem.1 hnd
      apply Fin.ext
      rcases Nat.lt_trichotomy x.1 y.1 with h | h | h
      · exact absurd (by simpa using this) (hp x.1 y.1 (by simp) (by simp) h)
      · exact h
      · exact absurd (by simpa using this.symm) (hp y.1 x.1 (by simp) (by simp) h)
    have eg : ∀ args w, (callFunc 124 args).run Tryz.prog w = .ok (.enter 124 args) w := enters_of Tryz.func124 (by kernel_rfl) rfl
    have key := AnyQ.slices_SortFunc_total Tryz.sortPair 2 Tryz.isAgg47 Tryz.sizeOf47 enc (fun _ => rfl) h1 cf (swo_keys fun i : Fin l.length => l[i].1) 124 #[] b 0 c (List.finRange l.length).toArray w eg hcmp hH hblt (by rw [hdsz]; exact hln) hT
    rw [hdsz] at key
    refine Calls.mono key ?_
    rintro e' w' ⟨rfl, m, os, rfl⟩
    have hperm := List.mergeSort_perm (List.finRange l.length) (fun x y => !(ltOf cf) y x)
    have hsort := List.pairwise_mergeSort (le := fun x y => !(ltOf cf) y x) (fun x y z h1 h2 => by
        have hs := (swo_keys fun i : Fin l.length => l[i].1).ntrans z y x
        simp only [Bool.not_eq_true'] at h1 h2 ⊢
        exact hs h2 h1) (fun x y => by
        cases hxy : ltOf cf y x
        · simp
        · have : ltOf cf x y = false := by
            simp only [ltOf, decide_eq_true_eq, decide_eq_false_iff_not] at hxy ⊢
            exact cb_asymm _ _ hxy
          simp [this]) (List.finRange l.length)
    have htl : (List.finRange l.length).toArray.toList = List.finRange l.length := by simp
    rw [htl]
    generalize hds : List.mergeSort (List.finRange l.length) (fun x y => !(ltOf cf) y x) = ds at hperm hsort
    have hlen : ds.length = l.length := by rw [hperm.length_eq]; simp
    have hget : (List.finRange l.length).map (fun i => l[i]) = l := by
      apply List.ext_getElem
      · simp
      · intro i h1 h2; simp
    have hnodup : ds.Nodup := hperm.nodup_iff.2 (List.nodup_finRange _)
    obtain ⟨q1, q2, q3⟩ := sortW_heap enc w b m ds.toArray os
    refine fin _ (ds.map fun i => l[i]) ?_ ?_ ⟨rfl, rfl, rfl⟩ q2 q1 fun hk => ?_
    · have := hperm.map fun i : Fin l.length => l[i]
      rw [hget] at this; exact this
    · rw [List.pairwise_map]
      refine (hsort.and hnodup).imp fun {x y} hxy => ?_
      obtain ⟨hle, hne⟩ := hxy
      by_cases hlt : cf x y < 0
      · exact hlt
      · exact absurd (hT x y (by simpa [ltOf] using hlt) (by simpa using hle)) hne
    · refine ⟨_, q3 cur e (0, 0) a1, by simp [Sort.putCells, a2], by rw [flat_length (sz := 2) (fun x hx => by obtain ⟨p, -, rfl⟩ := List.mem_map.1 hx; rfl)]; simp; omega, a4, fun j hj => ?_, fun j u hu => ?_⟩
      all_goals
        have hj' : j < l.length * 2 := by
          have hfl2 : (flat ((ds.map fun i => l[i]).map kvAv)).length = l.length * 2 := by
            rw [flat_length (sz := 2) (fun x hx => by obtain ⟨p, -, rfl⟩ := List.mem_map.1 hx; rfl)]; simp [hlen]
          first
            | omega
            | (rcases Nat.lt_or_ge j (l.length * 2) with h' | h'
               · exact h'
               · rw [List.getElem?_eq_none (by omega)] at hu; cases hu)
        have hjd : j / 2 < ds.length := by omega
        have hnew : (Sort.putCells id 0 (flatK enc 2 ds.toArray) cur).getD j undef = cur.getD (ds[j / 2].1 * 2 + j % 2) undef := by
          have hjc : j < cur.size := by omega
          have e1 : (Sort.putCells id 0 (flatK enc 2 ds.toArray) cur).getD j undef = (flatK enc 2 ds.toArray)[j]! := by
            simp only [Sort.putCells]
            simp [Array.getD, hjc, hlen, hj']
          rw [e1, Sort.get_flatK _ _ _ _ (by simp [hlen]; exact hj'), get!_toArray_fin ds _ hjd, henc _ _ (by omega)]
      · rw [hnew]
        have := ds[j / 2].2
        exact hcell _ (by omega)
      · rw [hnew]
        have hu' : (kvAv l[ds[j / 2]]).cells[j % 2]? = some u := by
          have := flat_kv (ds.map fun i => l[i]) (j / 2) (j % 2) (by simpa using hjd) (by omega)
          rw [show j / 2 * 2 + j % 2 = j by omega, hu] at this
          rw [this]; simp
        exact (hrepc ds[j / 2] (j % 2) u (by omega) hu').keep hk

def sortPNilSpec : Vm.Spec := fun args h Q => ∃ g, args = [.v (.slice none 0 0), .clo g []] ∧ Q (.tup []) h
theorem does_sortPNil : Does Tryz.prog 123 sortPNilSpec := by
  refine ⟨⟨Tryz.f123, Tryz.func123, by kernel_rfl, by decide +kernel⟩, ?_⟩
  rintro args h Q ⟨f, rfl, hq⟩ w g vs hvs hrep hh hfr hlaid
  have hv0 : vs.getD 0 undef = .slice none 0 0 := (rep_v (hrep 0 _ rfl)).1
  have hvs2 : vs = #[.slice none 0 0, vs.getD 1 undef] := by
    have h2 : vs.size = 2 := hvs
    apply Array.ext
    · simpa using h2
    · intro i hi1 hi2
      have : i = 0 ∨ i = 1 := by omega
      rcases this with rfl | rfl
      · simpa [Array.getD, h2] using hv0
      · simp [Array.getD, h2]
  rw [hvs2]
  refine (AnyF.slices_SortFunc_none Tryz.sortPair none 0 _ w).mono ?_
  rintro e' w' ⟨rfl, rfl⟩
  exact ⟨.tup [], h, g, .tuple #[], hq, rfl, .tup rfl (fun j u hu => by simp at hu), hh, ⟨rfl, rfl, rfl, Nat.le_refl _, fun _ _ _ => rfl⟩, Nat.le_refl _, fun _ _ => rfl, fun _ _ => rfl, fun i hi h1 => by omega, hfr⟩

end Go.Proofs.Lx
