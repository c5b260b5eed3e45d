/- Stores, structs and slices that are written out, as equations: where the cells are known one by one 'simp' goes through. -/
import Derived.Test.YthfbpdipilajoaaGreatDoorVmQ
set_option linter.unusedVariables false
set_option linter.unusedSimpArgs false
namespace Go.Vm
open Go.RowKit

theorem solid_v (x : Value) : solid (.v x) = true := id rfl
theorem solid_sl (sz : Nat) (xs : List AV) : solid (.sl sz xs) = true := id rfl
theorem solid_agg (xs : List AV) : solid (.agg xs) = true := id rfl
theorem solid_eptr (xs : List AV) : solid (.eptr xs) = true := id rfl
theorem solid_ptr (i o : Nat) : solid (.ptr i o) = true := id rfl
theorem solid_mp (i : Nat) : solid (.mp i) = true := id rfl
theorem solid_clo (f : FuncId) (xs : List AV) : solid (.clo f xs) = true := id rfl
theorem cells_eptr (xs : List AV) : (AV.eptr xs).cells = [.eptr xs] := id rfl

/-- A store that fits. -/
def stoOk (n o : Nat) (x : AV) (len : Nat) : Bool := solid x && (x.cells.length == n) && decide (o + n ≤ len)
theorem stoOk_eq (n o : Nat) (x : AV) (len : Nat) : stoOk n o x len = (solid x && (x.cells.length == n) && decide (o + n ≤ len)) := id rfl

/-- A store into an object. -/
def stoP (n i o : Nat) (x : AV) (s : Slots) (h : Heap) (K : AV → Slots → Heap → Prop) : Option AObj → Prop
  | some (.cells cs) => stoOk n o x cs.length = true ∧ K .any s (h.set i (.cells (putCells cs o x.cells)))
  | _ => False
def stoY (n i o : Nat) (x : AV) (s : Slots) (h : Heap) (K : AV → Slots → Heap → Prop) : Option AObj → Prop
  | some (.cells cs) => stoOk n o x cs.length = true ∧ K .any s (h.set i (.cells (putCells cs o x.cells)))
  | some (.row e m cs) => stoOk n o x cs.length = true ∧ K .any s (h.set i (.row e m (putCells cs o x.cells)))
  | _ => False
/-- A store into a variable of the call's own. -/
def stoX (n k o : Nat) (x : AV) (s : Slots) (h : Heap) (K : AV → Slots → Heap → Prop) : AV → Prop
  | .box cs => stoOk n o x cs.length = true ∧ K .any (set s k (.box (putCells cs o x.cells))) h
  | .ptr i o0 => stoP n i (o0 + o) x s h K h[i]?
  | _ => False
theorem sto_ok_iff {n o : Nat} {x : AV} {l : Nat} {A : Prop} : (solid x = true ∧ some n = some x.cells.length ∧ o + x.cells.length ≤ l ∧ A) = (stoOk n o x l = true ∧ A) := by
  simp only [stoOk, Bool.and_eq_true, beq_iff_eq, decide_eq_true_eq, Option.some.injEq, eq_iff_iff]
  constructor
  · rintro ⟨h1, h2, h3, h4⟩; exact ⟨⟨⟨h1, h2.symm⟩, by omega⟩, h4⟩
  · rintro ⟨⟨⟨h1, h2⟩, h3⟩, h4⟩; exact ⟨h1, h2.symm, by omega, h4⟩
theorem sto_place (n k o : Nat) (x : AV) (s : Slots) (h : Heap) (K : AV → Slots → Heap → Prop) : awpStore (some n) (.place k o) x s h K = stoX n k o x s h K (s k) := by
  cases hs : s k with
  | box cs => simp only [stoX, awpStore, hs, sto_ok_iff]
  | ptr i o0 =>
    simp only [stoX, awpStore, hs]
    cases hh : h[i]? with
    | none => simp only [stoP, and_false]
    | some y => cases y <;> simp only [stoP, and_false, sto_ok_iff]
  | _ => simp only [stoX, awpStore, hs, and_false]
theorem sto_box (n k o : Nat) (x : AV) (s : Slots) (h : Heap) (K : AV → Slots → Heap → Prop) (cs : List AV) : stoX n k o x s h K (.box cs) = (stoOk n o x cs.length = true ∧ K .any (set s k (.box (putCells cs o x.cells))) h) := id rfl
theorem sto_pp (n k o : Nat) (x : AV) (s : Slots) (h : Heap) (K : AV → Slots → Heap → Prop) (i o0 : Nat) : stoX n k o x s h K (.ptr i o0) = stoP n i (o0 + o) x s h K h[i]? := id rfl
theorem sto_pc (n i o : Nat) (x : AV) (s : Slots) (h : Heap) (K : AV → Slots → Heap → Prop) (cs : List AV) : stoP n i o x s h K (some (.cells cs)) = (stoOk n o x cs.length = true ∧ K .any s (h.set i (.cells (putCells cs o x.cells)))) := id rfl
theorem sto_ptr (n i o : Nat) (x : AV) (s : Slots) (h : Heap) (K : AV → Slots → Heap → Prop) : awpStore (some n) (.ptr i o) x s h K = stoY n i o x s h K h[i]? := by
  simp only [awpStore]
  cases hh : h[i]? with
  | none => simp only [stoY, and_false]
  | some y => cases y <;> simp only [stoY, and_false, sto_ok_iff]
theorem sto_cells (n i o : Nat) (x : AV) (s : Slots) (h : Heap) (K : AV → Slots → Heap → Prop) (cs : List AV) : stoY n i o x s h K (some (.cells cs)) = (stoOk n o x cs.length = true ∧ K .any s (h.set i (.cells (putCells cs o x.cells)))) := id rfl

theorem put_nil (cs : List AV) : putCells cs 0 [] = cs := by simp [putCells]
theorem put_zero (c x : AV) (cs xs : List AV) : putCells (c :: cs) 0 (x :: xs) = x :: putCells cs 0 xs := by simp [putCells]
theorem put_succ (c : AV) (cs xs : List AV) (o : Nat) : putCells (c :: cs) (o + 1) xs = c :: putCells cs o xs := by
  simp [putCells, show o + 1 + xs.length = (o + xs.length) + 1 by omega]

/-- A struct that is written out. -/
def bldE (ps : List (Nat × Nat)) (cs : List AV) (K : AV → Prop) : List (Nat × AV) → Prop
  | [] => K (.agg cs)
  | (i, x) :: r => match ps[i]? with
    | some (off, n) => stoOk n off x cs.length = true ∧ bldE ps (putCells cs off x.cells) K r
    | none => False
def bldF (ps : List (Nat × Nat)) (cs : List AV) (K : AV → Prop) (x : AV) (r : List (Nat × AV)) : Option (Nat × Nat) → Prop
  | some (off, n) => stoOk n off x cs.length = true ∧ bldE ps (putCells cs off x.cells) K r
  | none => False
theorem bld_nil (ps : List (Nat × Nat)) (cs : List AV) (K : AV → Prop) : bldE ps cs K [] = K (.agg cs) := id rfl
theorem bld_cons (ps : List (Nat × Nat)) (cs : List AV) (K : AV → Prop) (i : Nat) (x : AV) (r : List (Nat × AV)) : bldE ps cs K ((i, x) :: r) = bldF ps cs K x r ps[i]? := by
  simp only [bldE, bldF]
theorem bld_some (ps : List (Nat × Nat)) (cs : List AV) (K : AV → Prop) (x : AV) (r : List (Nat × AV)) (off n : Nat) : bldF ps cs K x r (some (off, n)) = (stoOk n off x cs.length = true ∧ bldE ps (putCells cs off x.cells) K r) := id rfl

theorem bldE_fill (ps : List (Nat × Nat)) (K : AV → Prop) : ∀ (parts : List (Nat × AV)) (cs : List AV), bldE ps cs K parts = (match fillA ps cs parts with | some cs => K (.agg cs) | none => False)
  | [], cs => rfl
  | (i, x) :: r, cs => by
    simp only [bldE, fillA]
    cases hp : ps[i]? with
    | none => rfl
    | some p =>
      obtain ⟨off, n⟩ := p
      simp only
      cases hk : (solid x && x.cells.length == n && decide (off + n ≤ cs.length))
      · simp [stoOk, hk]
      · have hk' := hk
        simp only [Bool.and_eq_true, beq_iff_eq, decide_eq_true_eq] at hk'
        simp only [stoOk, hk, true_and, if_true]
        rw [bldE_fill ps K r]
        simp only [putCells, hk'.1.2]
theorem build_eq {P : Program} {t : TypeId} {places : List (Nat × Nat)} {zs : Array Value} (hf : fieldsAt P t = some places) (hz : (P.info? t).bind (·.zero) = some (.agg zs)) (hp : zs.toList.all plain = true) (parts : List (Nat × AV)) (K : AV → Prop) :
    awpBuild P t parts K = bldE places (zs.toList.map .v) K parts := by
  unfold awpBuild
  simp only [hf, hz, bldE_fill]
  have : zs.all plain = true := by rw [← Array.all_toList]; exact hp
  simp only [this, true_and]
  cases fillA places (List.map AV.v zs.toList) parts <;> rfl

/-- A slice that is written out, of elements of one cell. -/
def bsIx (k : Nat) : List Nat → Bool
  | [] => true
  | i :: r => (i == k) && bsIx (k + 1) r
def bsAll : List AV → Bool
  | [] => true
  | x :: r => solid x && (x.cells.length == 1) && bsAll r
theorem bsIx_nil (k : Nat) : bsIx k [] = true := id rfl
theorem bsIx_cons (k i : Nat) (r : List Nat) : bsIx k (i :: r) = ((i == k) && bsIx (k + 1) r) := id rfl
theorem bsAll_nil : bsAll [] = true := id rfl
theorem bsAll_cons (x : AV) (r : List AV) : bsAll (x :: r) = (solid x && (x.cells.length == 1) && bsAll r) := id rfl
theorem bsIx_range : ∀ (l : List Nat) (k : Nat), bsIx k l = true → l = (List.range l.length).map (k + ·)
  | [], k, h => rfl
  | i :: r, k, h => by
    simp only [bsIx, Bool.and_eq_true, beq_iff_eq] at h
    obtain ⟨rfl, h⟩ := h
    have := bsIx_range r (i + 1) h
    rw [List.length_cons, List.range_succ_eq_map, List.map_cons, List.map_map]
    congr 1
    rw [this]
    simp only [List.length_map, List.length_range]
    apply List.map_congr_left
    intro x _; simp only [Function.comp]; omega
theorem bsAll_mem : ∀ (l : List AV), bsAll l = true → ∀ x ∈ l, solid x = true ∧ x.cells.length = 1
  | [], h, x, hx => by cases hx
  | y :: r, h, x, hx => by
    simp only [bsAll, Bool.and_eq_true, beq_iff_eq] at h
    rcases List.mem_cons.1 hx with rfl | hx
    · exact h.1
    · exact bsAll_mem r h.2 x hx
theorem bs_eq {P : Program} {e n : Nat} {ix : List Nat} {xs : List AV} {K : AV → Prop} (hz : ((P.info? e).any fun i => i.zero.isSome) = true) (h0 : decide (n ≤ 16777216) = true) (h1 : bsIx 0 ix = true) (h2 : (ix.length == n) = true) (h3 : (xs.length == n) = true) (h4 : bsAll xs = true)
    (hK : K (.own true e 1 xs)) : awpBS P (some (e, 1)) n ix xs K := by
  have e1 := bsIx_range ix 0 h1
  simp only [beq_iff_eq] at h2 h3
  simp only [decide_eq_true_eq] at h0
  refine ⟨hz, by decide, by omega, ?_, h3, bsAll_mem xs h4, hK⟩
  rw [e1, h2]; simp

/-- An element at a place that is written out. -/
def idxE (b : Bool) (K : AV → Prop) : Option AV → Prop
  | some x => b = true ∧ K (.eptr x.cells)
  | none => False
theorem idxE_some (b : Bool) (K : AV → Prop) (x : AV) : idxE b K (some x) = (b = true ∧ K (.eptr x.cells)) := id rfl
theorem idx_lit (e sz : Nat) (xs : List AV) (k : IntKind) (n : Int) (K : AV → Prop) : awpIdx (some (e, sz)) (.sl sz xs) (.v (.int k n)) K = idxE (decide (0 ≤ n)) K xs[n.toNat]? := by
  simp only [awpIdx, asSl, if_true, eq_iff_iff]
  constructor
  · rintro ⟨⟨h0, h1⟩, h2⟩
    have hlt : n.toNat < xs.length := by omega
    rw [List.getElem?_eq_getElem hlt]
    exact ⟨by simpa using h0, h2 _ (List.getElem?_eq_getElem hlt)⟩
  · intro h
    cases hx : xs[n.toNat]? with
    | none => rw [hx] at h; exact h.elim
    | some x =>
      rw [hx] at h
      obtain ⟨h0, h1⟩ := h
      have h0' : 0 ≤ n := by simpa using h0
      have hlt : n.toNat < xs.length := by
        rcases Nat.lt_or_ge n.toNat xs.length with h' | h'
        · exact h'
        · rw [List.getElem?_eq_none h'] at hx; cases hx
      exact ⟨⟨h0', by omega⟩, fun y hy => by cases hy; exact h1⟩

theorem bin_eqb {P : Program} {t : TypeId} (hu : P.underlying t = some .bool) (a b : Bool) (K : Value → Prop) : awpBin P .eql t (.v (.bool a)) (.v (.bool b)) K = K (.bool (a == b)) := by simp [awpBin, hu]
theorem bin_neb {P : Program} {t : TypeId} (hu : P.underlying t = some .bool) (a b : Bool) (K : Value → Prop) : awpBin P .neq t (.v (.bool a)) (.v (.bool b)) K = K (.bool (!(a == b))) := by simp [awpBin, hu]

/-- Of the cells those of a value. -/
theorem take_sc (n : Nat) (a : AV) (l : List AV) : (a :: l).take (n + 1) = a :: l.take n := List.take_succ_cons ..
theorem take_z (l : List AV) : l.take 0 = [] := List.take_zero
theorem bool_tt (b : Bool) : (true && b) = b := Bool.true_and b
theorem nil_eq : (AV.v (.slice none 0 0)) = .v (.slice none 0 0) := rfl

theorem alloc_eq {P : Program} {t : TypeId} {cs : Array Value} {l : List AV} (hz : (P.info? t).bind (·.zero) = some (.agg cs)) (hp : cs.toList.all plain = true) (hl : cs.toList.map .v = l) (K : AV → Prop) : awpAlloc ((P.info? t).bind (·.zero)) K = K (.box l) := by
  rw [← hl]; exact alloc_agg hz (by rw [← Array.all_toList]; exact hp) K

end Go.Vm
