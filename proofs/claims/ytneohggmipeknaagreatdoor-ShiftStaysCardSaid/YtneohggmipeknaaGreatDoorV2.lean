/- An interpreter over abstract values, and that it is sound. -/
import Derived.Test.YtneohggmipeknaaGreatDoorV1
import Derived.Deep.Slices
import Derived.WideShapes
open List renaming getElem?_eq_getElem → zIa, getD_eq_getElem?_getD → zJa
set_option linter.unusedVariables false
set_option linter.unusedSimpArgs false
namespace Go.Vm
open Go.RowKit
inductive Sh where
 | int (k : IntKind)
 | bool
 | str
 | sl (e : Sh)
 | agg (fs : List Sh)
mutual
def Sh.n : Sh → Nat
 | .agg fs => Sh.ns fs
 | _ => 1
def Sh.ns : List Sh → Nat
 | [] => 0
 | s :: r => s.n + Sh.ns r
end
mutual
def fits (P : Program) : Sh → TypeId → Bool
 | .int k, t => match P.underlying t with
   | some (.int k') => k == k'
   | _ => false
 | .bool, t => match P.underlying t with
   | some .bool => true
   | _ => false
 | .str, t => match P.underlying t with
   | some .string => true
   | _ => false
 | .sl e, t => match P.underlying t with
   | some (.slice te) => P.cellsOf te == e.n && decide (0 < e.n) && fits P e te
   | _ => false
 | .agg fs, t => match P.underlying t with
   | some (.struct xs) => P.cellsOf t == Sh.ns fs && fitsAll P fs xs.toList 0
   | _ => false
def fitsAll (P : Program) : List Sh → List Field → Nat → Bool
 | [], [], _ => true
 | s :: ss, f :: fs, o => f.offset == o && P.cellsOf f.type == s.n && fits P s f.type && fitsAll P ss fs (o + s.n)
 | _, _, _ => false
end
mutual
def IsA : Sh → AV → Prop
 | .int k, x => ∃ n, (Lit.int k n).wf = true ∧ x = .v (.int k n)
 | .bool, x => ∃ b, x = .v (.bool b)
 | .str, x => ∃ s : ByteArray, s.size ≤ maxLen ∧ x = .v (.string s)
 | .sl e, x => ∃ xs, xs.length ≤ maxLen ∧ x = .sl e.n xs ∧ ∀ y ∈ xs, IsA e y
 | .agg fs, x => ∃ ys, IsAll fs ys ∧ x = .agg (flat ys)
def IsAll : List Sh → List AV → Prop
 | [], ys => ys = []
 | s :: ss, ys => ∃ y r, ys = y :: r ∧ IsA s y ∧ IsAll ss r
end
mutual
theorem IsA.cells : ∀ (s : Sh) {x : AV}, IsA s x → x.cells.length = s.n
 | .int k, x, h => by simp only [IsA] at h; obtain ⟨n, -, rfl⟩ := h; rfl
 | .bool, x, h => by simp only [IsA] at h; obtain ⟨n, rfl⟩ := h; rfl
 | .str, x, h => by simp only [IsA] at h; obtain ⟨n, -, rfl⟩ := h; rfl
 | .sl e, x, h => by simp only [IsA] at h; obtain ⟨n, -, rfl, -⟩ := h; rfl
 | .agg fs, x, h => by
   simp only [IsA] at h
   obtain ⟨ys, h, rfl⟩ := h
   simpa [AV.cells, Sh.n] using IsAll.cells fs h
theorem IsAll.cells : ∀ (ss : List Sh) {ys : List AV}, IsAll ss ys → (flat ys).length = Sh.ns ss
 | [], ys, h => by simp only [IsAll] at h; subst h; rfl
 | s :: ss, ys, h => by
   simp only [IsAll] at h
   obtain ⟨y, r, rfl, h1, h2⟩ := h
   have e1 := IsA.cells s h1
   have e2 := IsAll.cells ss h2
   simp only [flat, List.flatMap_cons, List.length_append, Sh.ns] at e2 ⊢
   omega
end
def InCells (w : World) (g : Gh) (us : List AV) (cs : List Value) : Prop :=
 ∀ j u, us[j]? = some u → (cs.getD j undef).oneCell' = true ∧ Rep w g u (cs.getD j undef)
theorem InCells.one {w : World} {g : Gh} {u : AV} {v : Value} (h1 : v.oneCell' = true) (h : Rep w g u v) : InCells w g [u] [v] := by
 intro j x hx
 rcases j with _ | j
 · simp only [List.getElem?_cons_zero, Option.some.injEq] at hx; subst hx; exact ⟨h1, h⟩
 · simp at hx
theorem startG_spot {w : World} {a : Addr} {v : Value} (h : w.cell? a = some v) : a = ⟨a.block, a.off, none⟩ := by
 unfold World.cell? at h
 split at h
 · cases hs : a.spot with
   | none => cases a; simp_all
   | some y => simp [hs] at h
 · cases h
theorem in_add {a : Addr} (hx : a = ⟨a.block, a.off, none⟩) (j : Nat) : a.add j = ⟨a.block, a.off + j, none⟩ := by
 unfold Addr.add; split
 · rename_i h0; subst h0; simpa using hx
 · rfl
section
variable {H : Type} {enc : TypeId × Value → H} {P : Program} {w : World} {held : Bool}
mutual
theorem trod_isA : ∀ (s : Sh) {t : TypeId} {fuel : Nat} {cs : List Value} {x : DataW H × List MemPlace}, fits P s t = true → DataW.trod enc P w 0 (fun _ => true) held fuel t cs = some x →
   ∃ y, IsA s y ∧ cs.length = s.n ∧ InCells w (startG w) y.cells cs
 | .int k, t, fuel, cs, x, hf, h => by
   simp only [fits] at hf
   split at hf
   · rename_i k' hu
     obtain rfl : k = k' := by cases k <;> cases k' <;> first | rfl | (cases hf)
     obtain ⟨n, rfl, -, hw⟩ := DataW.trod_int hu h
     exact ⟨_, by simp only [IsA]; exact ⟨n, hw, rfl⟩, rfl, .one rfl (.v rfl)⟩
   · cases hf
 | .bool, t, fuel, cs, x, hf, h => by
   simp only [fits] at hf
   split at hf
   · rename_i hu
     obtain ⟨b, rfl, -⟩ := DataW.trod_bool hu h
     exact ⟨_, by simp only [IsA]; exact ⟨b, rfl⟩, rfl, .one rfl (.v rfl)⟩
   · cases hf
 | .str, t, fuel, cs, x, hf, h => by
   simp only [fits] at hf
   split at hf
   · rename_i hu
     obtain ⟨s, rfl, -, hs⟩ := DataW.trod_string hu h
     exact ⟨_, by simp only [IsA]; exact ⟨s, hs, rfl⟩, rfl, .one rfl (.v rfl)⟩
   · cases hf
 | .sl e, t, fuel, cs, x, hf, h => by
   simp only [fits] at hf
   split at hf
   · rename_i te hu
     simp only [Bool.and_eq_true, beq_iff_eq, decide_eq_true_eq] at hf
     obtain ⟨⟨hc, hpos⟩, hfe⟩ := hf
     rcases Deep.open_slice hu h with ⟨rfl, -⟩ | ⟨a, len, cap, m, n, D, Pl, rfl, -, hl, hm, hmm, -, hx⟩
     · exact ⟨.sl e.n [], by simp only [IsA]; exact ⟨[], Nat.zero_le _, rfl, by simp⟩, rfl, .one rfl (.nil _)⟩
     · rw [show m = cap from hmm, hc] at hx
       by_cases h0 : len = 0
       · subst h0
         exact ⟨.sl e.n [], by simp only [IsA]; exact ⟨[], Nat.zero_le _, rfl, by simp⟩, rfl, .one rfl (.empty _ a cap hm)⟩
       · have each : ∀ i, ∃ y, i < len → ∃ cs', w.cells? 0 (a.add (i * e.n)) e.n = some cs' ∧ IsA e y ∧ InCells w (startG w) y.cells cs' := fun i => by
           by_cases hi : i < len
           · obtain ⟨cs', h1, h2⟩ := hx i (by omega)
             obtain ⟨y, k1, -, k3⟩ := trod_isA e hfe h2
             exact ⟨y, fun _ => ⟨cs', h1, k1, k3⟩⟩
           · exact ⟨.any, fun h => absurd h hi⟩
         obtain ⟨f, hf⟩ := Classical.axiomOfChoice each
         have hax : a = ⟨a.block, a.off, none⟩ := by
           obtain ⟨cs', h1, -, -⟩ := hf 0 (by omega)
           obtain ⟨-, hlen, hc'⟩ := World.cells?_some h1
           have := hc' 0 hpos
           rw [zIa (by omega)] at this
           simp only [Nat.zero_mul, Addr.add, if_true] at this
           exact startG_spot this
         have hu' : ∀ y ∈ (List.range len).map f, y.cells.length = e.n := fun y hy => by
           obtain ⟨i, hi, rfl⟩ := List.mem_map.1 hy
           obtain ⟨cs', -, h2, -⟩ := hf i (by simpa using hi)
           exact IsA.cells e h2
         have hlen : ((List.range len).map f).length = len := by simp
         refine ⟨.sl e.n ((List.range len).map f), ?_, rfl, ?_⟩
         · simp only [IsA]
           refine ⟨_, by rw [hlen]; omega, rfl, fun y hy => ?_⟩
           obtain ⟨i, hi, rfl⟩ := List.mem_map.1 hy
           obtain ⟨cs', -, h2, -⟩ := hf i (by simpa using hi)
           exact h2
         · refine .one rfl ?_
           have cell : ∀ j u, (flat ((List.range len).map f))[j]? = some u → ∃ v, w.cell? ⟨a.block, a.off + j, none⟩ = some v ∧ v.oneCell' = true ∧ Rep w (startG w) u v := fun j u hj => by
             have hlt : j < len * e.n := by
               rcases Nat.lt_or_ge j (len * e.n) with h' | h'
               · exact h'
               · rw [List.getElem?_eq_none (by rw [flat_length hu', hlen]; exact h')] at hj; cases hj
             have hi : j / e.n < len := (Nat.div_lt_iff_lt_mul hpos).2 hlt
             have hr : j % e.n < e.n := Nat.mod_lt _ hpos
             have hdm : j / e.n * e.n + j % e.n = j := by rw [Nat.mul_comm]; exact Nat.div_add_mod j e.n
             obtain ⟨cs', h1, h2, h3⟩ := hf _ hi
             obtain ⟨-, hlen', hc'⟩ := World.cells?_some h1
             have hg : (flat ((List.range len).map f))[j / e.n * e.n + j % e.n]? = (f (j / e.n)).cells[j % e.n]? :=
               flat_get hu' (by rw [List.getElem?_map, List.getElem?_range hi]; rfl) _ hr
             rw [hdm, hj] at hg
             obtain ⟨k1, k2⟩ := h3 _ _ hg.symm
             have hcell := hc' _ hr
             rw [zIa (by omega), Deep.add_add, hdm, in_add hax] at hcell
             have e1 : cs'.getD (j % e.n) undef = cs'[j % e.n]'(by omega) := by simp [zJa, zIa (show j % e.n < cs'.length by omega)]
             rw [e1] at k1 k2
             exact ⟨_, hcell, k1, k2⟩
           have cell' : ∀ j, ∃ v, ∀ u, (flat ((List.range len).map f))[j]? = some u → w.cell? ⟨a.block, a.off + j, none⟩ = some v ∧ v.oneCell' = true ∧ Rep w (startG w) u v := fun j => by
             cases hj : (flat ((List.range len).map f))[j]? with
             | none => exact ⟨undef, fun u hu => by cases hu⟩
             | some u =>
               obtain ⟨v, h1, h2, h3⟩ := cell j u hj
               exact ⟨v, fun u' hu => by cases hu; exact ⟨h1, h2, h3⟩⟩
           obtain ⟨vs, hvs⟩ := Classical.axiomOfChoice cell'
           have key := Rep.sl (w := w) (g := startG w) (sz := e.n) (xs := (List.range len).map f) (b := a.block) (o := a.off) (c := cap) vs (by rw [hlen]; exact hl) hm hpos hu'
             (fun j u hj => ⟨(hvs j u hj).1, startG_cell (hvs j u hj).1, (hvs j u hj).2.1⟩) (fun j u hj => (hvs j u hj).2.2)
           rw [hlen, ← hax] at key
           exact key
   · cases hf
 | .agg ss, t, fuel, cs, x, hf, h => by
   simp only [fits] at hf
   split at hf
   · rename_i fs hu
     simp only [Bool.and_eq_true, beq_iff_eq] at hf
     obtain ⟨hc, hfa⟩ := hf
     obtain ⟨xs, n, -, -, hl, hlen, hall⟩ := DataW.trod_struct hu h
     obtain ⟨ys, h1, h2⟩ := trods_isA ss (fs := fs.toList) (o := 0) (cs := cs) hfa (fun f hf => by
       obtain ⟨i, hi, hfi⟩ := List.getElem_of_mem hf
       have hi' : i < fs.size := by simpa using hi
       have := hall i f (by rw [← hfi]; simp [hi'])
       rw [zIa (by omega)] at this
       exact ⟨n, _, this⟩)
     refine ⟨.agg (flat ys), by simp only [IsA]; exact ⟨ys, h1, rfl⟩, by rw [hl, hc]; rfl, fun j u hu => ?_⟩
     have := h2 j u hu
     rwa [Nat.zero_add] at this
   · cases hf
theorem trods_isA : ∀ (ss : List Sh) {fs : List Field} {o : Nat} {cs : List Value}, fitsAll P ss fs o = true →
   (∀ f ∈ fs, ∃ n x, DataW.trod enc P w 0 (fun _ => true) held n f.type ((cs.drop f.offset).take (P.cellsOf f.type)) = some x) →
   ∃ ys, IsAll ss ys ∧ ∀ j u, (flat ys)[j]? = some u → (cs.getD (o + j) undef).oneCell' = true ∧ Rep w (startG w) u (cs.getD (o + j) undef)
 | [], fs, o, cs, hf, h => ⟨[], by simp only [IsAll], fun j u hu => by simp [flat] at hu⟩
 | s :: ss, fs, o, cs, hf, h => by
   cases fs with
   | nil => simp [fitsAll] at hf
   | cons f fs =>
     simp only [fitsAll, Bool.and_eq_true, beq_iff_eq] at hf
     obtain ⟨⟨⟨ho, hc⟩, hfs⟩, hfa⟩ := hf
     obtain ⟨n, x, hx⟩ := h f (List.mem_cons_self ..)
     rw [ho, hc] at hx
     obtain ⟨y, h1, h2, h3⟩ := trod_isA s hfs hx
     obtain ⟨ys, h4, h5⟩ := trods_isA ss (cs := cs) hfa fun f' hf' => h f' (List.mem_cons_of_mem _ hf')
     refine ⟨y :: ys, by simp only [IsAll]; exact ⟨y, ys, rfl, h1, h4⟩, fun j u hu => ?_⟩
     have hcy := IsA.cells s h1
     simp only [flat, List.flatMap_cons] at hu
     by_cases hj : j < s.n
     · rw [List.getElem?_append_left (by omega)] at hu
       have e : ((cs.drop o).take s.n).getD j undef = cs.getD (o + j) undef := by
         simp only [zJa, List.getElem?_take, hj, if_true, List.getElem?_drop]
       have := h3 j u hu
       rwa [e] at this
     · rw [List.getElem?_append_right (by omega), hcy] at hu
       have := h5 (j - s.n) u hu
       rwa [show o + s.n + (j - s.n) = o + j by omega] at this
end
theorem arg_isA (s : Sh) {t : TypeId} {r : Reach} {b0 : Nat} {v : Value} {d : DataW H} {p : List MemPlace} (hf : fits P s t = true) (hv : Value.okWide P w r b0 t v) (h : DataW.Trod enc P w 0 (fun _ => true) held t v d p) :
   ∃ y, IsA s y ∧ Rep w (startG w) y v := by
 obtain ⟨fuel, h⟩ := h
 obtain ⟨y, h1, h2, h3⟩ := trod_isA s hf h
 refine ⟨y, h1, ?_⟩
 have single : ∀ v', v = v' → v'.cells.toList = [v'] → y.cells = [y] → Rep w (startG w) y v := fun v' e1 e2 e3 => by
   subst e1
   rw [e3, e2] at h3
   exact (h3 0 y rfl).2
 cases s with
 | agg fs =>
   simp only [fits] at hf
   split at hf
   · rename_i xs hu
     unfold Value.okWide at hv
     rw [hu] at hv
     obtain ⟨cs, rfl, hsz, -⟩ := hv
     simp only [IsA] at h1
     obtain ⟨ys, h1, rfl⟩ := h1
     have hlen := IsAll.cells fs h1
     simp only [Value.cells, Sh.n] at h2
     refine .agg (by rw [hlen]; simpa using h2) (fun j hj => ?_) (fun j u hu => ?_)
     · have hj' : j < (flat ys).length := by rw [hlen]; simp at h2; omega
       have := (h3 j _ (zIa hj')).1
       simpa [Value.cells, zJa, Array.getD_eq_getD_getElem?] using this
     · have := (h3 j u hu).2
       simpa [Value.cells, zJa, Array.getD_eq_getD_getElem?] using this
   · cases hf
 | int k =>
   simp only [fits] at hf
   split at hf
   · rename_i k' hu
     obtain ⟨n, rfl⟩ := WideShapes.okWide_int hu hv
     simp only [IsA] at h1; obtain ⟨n, -, rfl⟩ := h1
     exact single _ rfl rfl rfl
   · cases hf
 | bool =>
   simp only [fits] at hf
   split at hf
   · rename_i hu
     obtain ⟨n, rfl⟩ := WideShapes.okWide_bool hu hv
     simp only [IsA] at h1; obtain ⟨n, rfl⟩ := h1
     exact single _ rfl rfl rfl
   · cases hf
 | str =>
   simp only [fits] at hf
   split at hf
   · rename_i hu
     obtain ⟨n, rfl⟩ := WideShapes.okWide_string hu hv
     simp only [IsA] at h1; obtain ⟨n, -, rfl⟩ := h1
     exact single _ rfl rfl rfl
   · cases hf
 | sl e =>
   simp only [fits] at hf
   split at hf
   · rename_i te hu
     obtain ⟨a, len, cap, rfl⟩ := WideShapes.okWide_slice hu hv
     simp only [IsA] at h1; obtain ⟨n, -, rfl, -⟩ := h1
     exact single _ rfl rfl rfl
   · cases hf
end
end Go.Vm
