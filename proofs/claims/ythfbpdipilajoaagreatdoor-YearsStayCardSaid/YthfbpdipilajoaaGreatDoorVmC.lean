/- The frame's relation under what an operation does to it. -/
import Derived.Test.YthfbpdipilajoaaGreatDoorVmB
set_option linter.unusedVariables false
set_option linter.unusedSimpArgs false
namespace Go.Vm
open Go.RowKit

abbrev tmOf (a : Act) : Nat → Value := fun i => a.tmps.getD i undef

theorem tm_put (a : Act) (d : Nat) (v : Value) (hd : d < a.tmps.size) (i : Nat) : tmOf (a.put (some d) v) i = if i = d then v else tmOf a i := by
  simp only [tmOf, Act.put]
  by_cases h : i = d
  · subst h; simp [Array.getD, hd]
  · simp only [h, if_false]
    simp only [Array.getD_eq_getD_getElem?]
    rw [Array.getElem?_setIfInBounds_ne (by omega)]

theorem privB_killed (d : Nat) (x : AV) (v : Value) : privB (killed d x) v = privB x v := by
  cases x <;> simp [killed] <;> (try split) <;> simp [privB]

theorem slotRep_killed {w : World} {g : Gh} {B d : Nat} {tm tm' : Nat → Value} {x : AV} {v : Value} (htm : ∀ i, i ≠ d → tm' i = tm i)
    (h : slotRep w g B tm x v) : slotRep w g B tm' (killed d x) v := by
  cases x <;> simp only [killed] <;> (try exact h)
  all_goals
    split
    · exact .any v
    · rename_i hne
      simp only [slotRep] at h ⊢
      rw [htm _ hne]
      exact h

theorem R.put {H : Hst} {w0 w : World} {g0 g : Gh} {s : Slots} {h : Heap} {a : Act} {d : Nat} {x : AV} {v : Value} (r : R H w0 g0 s h g a w) (hd : d < a.tmps.size)
    (hx : slotRep w g w0.heap.size (tmOf a) x v) (hp : ∀ b, privB x v = some b → (∀ i, i ≠ d → privB (s i) (tmOf a i) ≠ some b) ∧ ∀ k, k < g.n → g.loc k ≠ b) :
    R H w0 g0 (Vm.put s d x) h g (a.put (some d) v) w := by
  have htm := tm_put a d v hd
  have htm' : ∀ i, i ≠ d → tmOf (a.put (some d) v) i = tmOf a i := fun i hi => by rw [htm, if_neg hi]
  have hpr : ∀ i, privB (Vm.put s d x i) (tmOf (a.put (some d) v) i) = if i = d then privB x v else privB (s i) (tmOf a i) := by
    intro i
    by_cases hi : i = d
    · subst hi; simp only [Vm.put, if_true, privB_killed]; rw [htm, if_pos rfl]
    · simp only [Vm.put, hi, if_false, privB_killed]; rw [htm' i hi]
  refine ⟨r.defers, ?_, ?_, ?_, r.heap, r.frame, r.n0, r.loc0, r.old, r.loc1, r.fresh, r.laid, r.kept⟩
  · intro i
    show slotRep w g w0.heap.size (tmOf (a.put (some d) v)) (Vm.put s d x i) (tmOf (a.put (some d) v) i)
    by_cases hi : i = d
    · subst hi
      rw [htm, if_pos rfl]
      simp only [Vm.put, if_true]
      exact slotRep_killed htm' hx
    · rw [htm' i hi]
      simp only [Vm.put, hi, if_false]
      exact slotRep_killed htm' (r.slots i)
  · intro i j b hi hj
    have hi' : privB (Vm.put s d x i) (tmOf (a.put (some d) v) i) = some b := hi
    have hj' : privB (Vm.put s d x j) (tmOf (a.put (some d) v) j) = some b := hj
    rw [hpr] at hi' hj'
    by_cases e : i = d <;> by_cases e' : j = d
    · omega
    · rw [if_pos e] at hi'; rw [if_neg e'] at hj'; exact absurd hj' ((hp b hi').1 j e')
    · rw [if_neg e] at hi'; rw [if_pos e'] at hj'; exact absurd hi' ((hp b hj').1 i e)
    · rw [if_neg e] at hi'; rw [if_neg e'] at hj'; exact r.apart i j b hi' hj'
  · intro i b hi
    have hi' : privB (Vm.put s d x i) (tmOf (a.put (some d) v) i) = some b := hi
    rw [hpr] at hi'
    by_cases e : i = d
    · rw [if_pos e] at hi'; exact (hp b hi').2
    · rw [if_neg e] at hi'; exact r.sep i b hi'

/-- Values that are no slot's own. -/
def shared : AV → Bool
  | .own .. | .box _ | .iter .. | .alias _ | .place .. | .elt .. | .otup .. | .part .. => false
  | _ => true

theorem slotRep_of_rep {w : World} {g : Gh} {B : Nat} {tm : Nat → Value} {x : AV} {v : Value} (hs : shared x = true) (h : Rep w g x v) : slotRep w g B tm x v := by
  cases x <;> simp_all [shared, slotRep]
theorem rep_of_slotRep {w : World} {g : Gh} {B : Nat} {tm : Nat → Value} {x : AV} {v : Value} (hs : shared x = true) (h : slotRep w g B tm x v) : Rep w g x v := by
  cases x <;> simp_all [shared, slotRep]
theorem privB_shared {x : AV} {v : Value} (hs : shared x = true) : privB x v = none := by
  cases x <;> simp_all [shared, privB]
theorem shared_val (x : AV) : shared (val x) = true := by cases x <;> rfl
theorem rep_val {w : World} {g : Gh} {B : Nat} {tm : Nat → Value} {x : AV} {v : Value} (h : slotRep w g B tm x v) : Rep w g (val x) v := by
  cases x <;> first | exact h | exact .any v

theorem rep_shared {w : World} {g : Gh} {x : AV} {v : Value} (h : Rep w g x v) : shared x = true := by cases h <;> rfl

theorem R.put_rep {H : Hst} {w0 w : World} {g0 g : Gh} {s : Slots} {h : Heap} {a : Act} {d : Nat} {x : AV} {v : Value} (r : R H w0 g0 s h g a w) (hd : d < a.tmps.size)
    (hx : Rep w g x v) : R H w0 g0 (Vm.put s d x) h g (a.put (some d) v) w :=
  r.put hd (slotRep_of_rep (rep_shared hx) hx) (fun b hb => by rw [privB_shared (rep_shared hx)] at hb; cases hb)

theorem plain_oneCell {x : Value} (h : plain x = true) : x.oneCell' = true := by
  cases x <;> simp_all [plain, Value.oneCell']

theorem cst_rep (w : World) (g : Gh) (v : Value) : Rep w g (cst v) v := by
  unfold cst
  split
  · rename_i cs
    split
    · rename_i hall
      have hp : ∀ j (hj : j < cs.size), plain cs[j] = true := fun j hj => Array.all_eq_true.1 hall j hj
      refine .agg (by simp) (fun j hj => ?_) (fun j u hu => ?_)
      · simp only [Array.getD_eq_getD_getElem?, Array.getElem?_eq_getElem hj, Option.getD_some]
        exact plain_oneCell (hp j hj)
      · have hj : j < cs.size := by
          rcases Nat.lt_or_ge j cs.size with h | h
          · exact h
          · simp [Array.getElem?_eq_none h] at hu
        simp only [List.getElem?_map, Array.getElem?_toList, Array.getElem?_eq_getElem hj, Option.map_some, Option.some.injEq] at hu
        subst hu
        simp only [Array.getD_eq_getD_getElem?, Array.getElem?_eq_getElem hj, Option.getD_some]
        exact .v (hp j hj)
    · exact .any _
  · rename_i cs
    split
    · rename_i hall
      have hp : ∀ j (hj : j < cs.size), plain cs[j] = true := fun j hj => Array.all_eq_true.1 hall j hj
      refine .tup (by simp) (fun j u hu => ?_)
      have hj : j < cs.size := by
        rcases Nat.lt_or_ge j cs.size with h | h
        · exact h
        · simp [Array.getElem?_eq_none h] at hu
      simp only [List.getElem?_map, Array.getElem?_toList, Array.getElem?_eq_getElem hj, Option.map_some, Option.some.injEq] at hu
      subst hu
      simp only [Array.getD_eq_getD_getElem?, Array.getElem?_eq_getElem hj, Option.getD_some]
      exact .v (hp j hj)
    · exact .any _
  · split
    · rename_i h; exact .v h
    · exact .any _

theorem shared_cst (v : Value) : shared (cst v) = true := rep_shared (cst_rep default ⟨fun _ => 0, 0, fun _ => 0⟩ v)

/-- What an operand holds. -/
theorem R.eval {H : Hst} {w0 w : World} {g0 g : Gh} {s : Slots} {h : Heap} {a : Act} (r : R H w0 g0 s h g a w) (o : Operand) :
    slotRep w g w0.heap.size (tmOf a) (ev s o) (a.eval o) := by
  cases o with
  | tmp t => exact r.slots t
  | const v => exact slotRep_of_rep (shared_cst v) (cst_rep w g v)
  | global n =>
    simp only [ev]
    cases ht : globTab n with
    | none => exact .any _
    | some cs => exact r.laid n cs ht
  | func f => exact .clo (by simp) (by simp)

theorem R.eval_val {H : Hst} {w0 w : World} {g0 g : Gh} {s : Slots} {h : Heap} {a : Act} (r : R H w0 g0 s h g a w) (o : Operand) : Rep w g (val (ev s o)) (a.eval o) := rep_val (r.eval o)

theorem R.mv {H : Hst} {w0 w : World} {g0 g : Gh} {s : Slots} {h : Heap} {a : Act} (r : R H w0 g0 s h g a w) (o : Operand) :
    slotRep w g w0.heap.size (tmOf a) (mv s o) (a.eval o) ∧ privB (mv s o) (a.eval o) = none := by
  have hv := r.eval_val o
  unfold Vm.mv
  split
  · rename_i t
    have hs := r.slots t
    split
    · exact ⟨rfl, rfl⟩
    · exact ⟨rfl, rfl⟩
    · rename_i cs he
      rw [he] at hs
      obtain ⟨b, hb, -⟩ := hs
      exact ⟨⟨b, hb, hb⟩, rfl⟩
    · exact ⟨.any _, rfl⟩
    · rename_i x h1 h1' h2 h3
      refine ⟨hs, ?_⟩
      cases hx : s t with
      | own m e sz xs => exact absurd hx (h1 m e sz xs)
      | otup i m e sz xs rest => exact absurd hx (h1' i m e sz xs rest)
      | box cs => exact absurd hx (h2 cs)
      | iter id since seen c0 => exact absurd hx (h3 id since seen c0)
      | _ => rfl
  · exact ⟨slotRep_of_rep (shared_val _) hv, privB_shared (shared_val _)⟩

end Go.Vm
