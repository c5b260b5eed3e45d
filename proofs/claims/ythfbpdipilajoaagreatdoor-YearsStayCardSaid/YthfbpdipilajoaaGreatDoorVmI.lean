/- Words for the use of the interpreter: the slots as they are read, bytes as a list, loops and calls by one line. -/
import Derived.Test.YthfbpdipilajoaaGreatDoorVmH
set_option linter.unusedVariables false
set_option linter.unusedSimpArgs false
namespace Go.Vm
open Go.RowKit

@[simp] theorem put_app (s : Slots) (d : Nat) (x : AV) (i : Nat) : put s d x i = bif i == d then killed d x else killed d (s i) := by
  by_cases h : i = d
  · simp [put, h]
  · have h' : (i == d) = false := by simpa using h
    simp [put, h, h']
@[simp] theorem set_app (s : Slots) (d : Nat) (x : AV) (i : Nat) : set s d x i = bif i == d then x else s i := by
  by_cases h : i = d
  · simp [set, h]
  · have h' : (i == d) = false := by simpa using h
    simp [set, h, h']
@[simp] theorem killed_v (d : Nat) (x : Value) : killed d (.v x) = .v x := id rfl
@[simp] theorem killed_sl (d sz : Nat) (xs : List AV) : killed d (.sl sz xs) = .sl sz xs := id rfl
@[simp] theorem killed_own (d sz : Nat) (m : Bool) (e : TypeId) (xs : List AV) : killed d (.own m e sz xs) = .own m e sz xs := id rfl
@[simp] theorem killed_agg (d : Nat) (xs : List AV) : killed d (.agg xs) = .agg xs := id rfl
@[simp] theorem killed_tup (d : Nat) (xs : List AV) : killed d (.tup xs) = .tup xs := id rfl
@[simp] theorem killed_box (d : Nat) (xs : List AV) : killed d (.box xs) = .box xs := id rfl
@[simp] theorem killed_eptr (d : Nat) (xs : List AV) : killed d (.eptr xs) = .eptr xs := id rfl
@[simp] theorem killed_ptr (d i o : Nat) : killed d (.ptr i o) = .ptr i o := id rfl
@[simp] theorem killed_mp (d i : Nat) : killed d (.mp i) = .mp i := id rfl
@[simp] theorem killed_clo (d f : Nat) (xs : List AV) : killed d (.clo f xs) = .clo f xs := id rfl
@[simp] theorem killed_iter (d i n : Nat) (l : List Nat) (c : Nat) : killed d (.iter i n l c) = .iter i n l c := id rfl
@[simp] theorem killed_any (d : Nat) : killed d .any = .any := id rfl
@[simp] theorem killed_alias (d s : Nat) : killed d (.alias s) = bif s == d then .any else .alias s := by
  by_cases h : s = d
  · simp [killed, h]
  · have h' : (s == d) = false := by simpa using h
    simp [killed, h, h']
@[simp] theorem killed_place (d s o : Nat) : killed d (.place s o) = bif s == d then .any else .place s o := by
  by_cases h : s = d
  · simp [killed, h]
  · have h' : (s == d) = false := by simpa using h
    simp [killed, h, h']
@[simp] theorem killed_elt (d s sz i o : Nat) : killed d (.elt s sz i o) = bif s == d then .any else .elt s sz i o := by
  by_cases h : s = d
  · simp [killed, h]
  · have h' : (s == d) = false := by simpa using h
    simp [killed, h, h']

@[simp] theorem killed_part (d s i : Nat) : killed d (.part s i) = bif s == d then .any else .part s i := by
  by_cases h : s = d
  · simp [killed, h]
  · have h' : (s == d) = false := by simpa using h
    simp [killed, h, h']
@[simp] theorem killed_otup (d i : Nat) (m : Bool) (e sz : Nat) (xs rest : List AV) : killed d (.otup i m e sz xs rest) = .otup i m e sz xs rest := id rfl

/-- Slots of which some are known. -/
def mk (l : List (Nat × AV)) : Slots := fun i => (l.lookup i).getD .any
@[simp] theorem mk_app (l : List (Nat × AV)) (i : Nat) : mk l i = (l.lookup i).getD .any := id rfl

theorem lookup_mem {l : List (Nat × AV)} {i : Nat} {x : AV} (h : l.lookup i = some x) : (i, x) ∈ l := by
  induction l with
  | nil => simp at h
  | cons p l ih =>
    obtain ⟨k, y⟩ := p
    simp only [List.lookup] at h
    split at h
    · rename_i he
      simp only [Option.some.injEq] at h
      have : i = k := by simpa using he
      subst this; subst h
      exact List.mem_cons_self ..
    · exact List.mem_cons_of_mem _ (ih h)

theorem le_mk {s : Slots} (l : List (Nat × AV)) (h : ∀ p ∈ l, Fg (s p.1) p.2) : Le s (mk l) := by
  intro i
  unfold mk
  cases hl : l.lookup i with
  | none => exact .any _
  | some x => exact h _ (lookup_mem hl)

@[simp] theorem fg_refl (x : AV) : Fg x x := .refl x

/-- A call, its arguments known. -/
def callA (T : FuncId → Option Spec) (f : FuncId) (xs : List AV) (s : Slots) (h : Heap) (K : AV → Slots → Heap → Prop) : Prop :=
  match T f with
  | some S => ∃ as, GaL xs as ∧ ∃ Q0, S as h Q0 ∧ ∀ r h', Q0 r h' → K r s h'
  | none => False
/-- .. or of a slice that it turns. -/
def callC (T : FuncId → Option Spec) (f : FuncId) (xs : List AV) (s : Slots) (h : Heap) (K : AV → Slots → Heap → Prop) (I : Prop) : Prop := callA T f xs s h K ∨ I
theorem call_one {T : FuncId → Option Spec} {f : FuncId} {xs : List AV} {s : Slots} {h : Heap} {K : AV → Slots → Heap → Prop} {I : Prop} {S : Spec} (hT : T f = some S) (as : List AV)
    (hg : GaL xs as) (hS : S as h fun r h' => K r s h') : callC T f xs s h K I := by
  refine .inl ?_
  unfold callA
  rw [hT]
  exact ⟨as, hg, _, hS, fun _ _ q => q⟩

theorem GaL.rfl : ∀ {l : List AV}, GaL l l
  | [] => .nil
  | x :: _ => .cons (.refl x) GaL.rfl

/-- Bytes as the interpreter has them. -/
@[simp] theorem encB_cells (b : UInt8) : (encB b).cells = [encB b] := id rfl
@[simp] theorem val_encB (b : UInt8) : val (encB b) = encB b := id rfl

/-! What comes later is kept from 'simp' behind 'hid': its second argument's type hangs on the first, so no congruence law goes in. -/
structure Tg {α : Sort _} (K : α) : Type where mk ::
def hid {α : Sort _} (K : α) (_ : Tg K) : α := K
theorem hid1 {α : Type _} {β : Sort _} (K : α → β) (u : Tg K) (x : α) : hid K u x = K x := id rfl
theorem hid2 {α β : Type _} {γ : Sort _} (K : α → β → γ) (u : Tg K) (x : α) (y : β) : hid K u x y = K x y := id rfl
theorem hid3 {α β γ : Type _} {δ : Sort _} (K : α → β → γ → δ) (u : Tg K) (x : α) (y : β) (z : γ) : hid K u x y z = K x y z := id rfl
theorem hidP (A : Prop) (u : Tg A) : hid A u = A := id rfl
/-- What 'simp' is to leave as it stands. -/
def kept (A : Prop) (_ : Tg A) : Prop := A
theorem kept_intro {A : Prop} {u : Tg A} (h : A) : kept A u := h

theorem cells_v (x : Value) : (AV.v x).cells = [.v x] := id rfl
theorem cells_sl (sz : Nat) (xs : List AV) : (AV.sl sz xs).cells = [.sl sz xs] := id rfl
theorem cells_agg (xs : List AV) : (AV.agg xs).cells = xs := id rfl
theorem cells_ptr (i o : Nat) : (AV.ptr i o).cells = [.ptr i o] := id rfl
theorem cells_mp (i : Nat) : (AV.mp i).cells = [.mp i] := id rfl
theorem cells_clo (f : FuncId) (xs : List AV) : (AV.clo f xs).cells = [.clo f xs] := id rfl
theorem cells_any  : (AV.any).cells = [.any] := id rfl

/-- A loop: what holds at the head of each round, with a number that falls. -/
theorem awp_loop {P : Program} {T : FuncId → Option Spec} {b : Code} {s : Slots} {h : Heap} {Q : Out → Slots → Heap → Prop} (I : Nat → Slots → Heap → Prop) (n : Nat) (s1 : Slots)
    (h0 : Le s s1) (h1 : I n s1 h) (round : ∀ n s h, I n s h → awp P T b s h (hid (fun o s' h' => thenO o (hid (kept (∃ m, m < n ∧ ∃ s1, Le s' s1 ∧ I m s1 h') .mk) .mk) (hid (Q o s' h') .mk)) .mk)) : awp P T (.loop b) s h Q := ⟨I, n, ⟨s1, h0, h1⟩, round⟩


/-! Equations by which 'simp' runs the interpreter; 'congr' laws that keep it out of what comes later. -/
section eqs
variable {P : Program} {T : FuncId → Option Spec}

def mvA (t : Nat) : AV → AV
  | .own .. => .alias t
  | .otup .. => .alias t
  | .box _ => .place t 0
  | .iter .. => .any
  | x => x
theorem mv_tmp (s : Slots) (t : Nat) : mv s (.tmp t) = mvA t (s t) := by simp only [mv, mvA]; cases s t <;> rfl
theorem mv_const (s : Slots) (x : Value) : mv s (.const x) = val (cst x) := id rfl
theorem mv_func (s : Slots) (f : FuncId) : mv s (.func f) = .clo f [] := id rfl
def tkA (s : Slots) (t : Nat) : AV → AV × Slots
  | .own m e sz xs => (.own m e sz xs, set s t .any)
  | .alias k => tkAl s k (s k)
  | .part k i => tkPart s k i (s k)
  | .otup .. => (.any, s)
  | .box _ => (.place t 0, s)
  | .iter .. => (.any, s)
  | x => (x, s)
theorem tk_tmp (s : Slots) (t : Nat) : tk s (.tmp t) = tkA s t (s t) := by simp only [tk, tkA]; cases s t <;> rfl
theorem tk_const (s : Slots) (x : Value) : tk s (.const x) = (val (cst x), s) := id rfl
theorem tk_func (s : Slots) (f : FuncId) : tk s (.func f) = (.clo f [], s) := id rfl
def frzA (s : Slots) (t : Nat) : AV → AV × Slots
  | .own _ e sz xs => (.sl sz xs, set s t (.own false e sz xs))
  | .alias k => frzAl s k (s k)
  | x => (val x, s)
theorem frz_tmp (s : Slots) (t : Nat) : frz s (.tmp t) = frzA s t (s t) := by simp only [frz, frzA]; cases s t <;> rfl
theorem frz_const (s : Slots) (x : Value) : frz s (.const x) = (val (cst x), s) := id rfl
theorem frz_func (s : Slots) (f : FuncId) : frz s (.func f) = (.clo f [], s) := id rfl
theorem frzs_nil (s : Slots) : frzs s [] = ([], s) := id rfl
theorem frzs_cons (s : Slots) (o : Operand) (r : List Operand) : frzs s (o :: r) = ((frz s o).1 :: (frzs (frz s o).2 r).1, (frzs (frz s o).2 r).2) := id rfl
def escQ (s : Slots) (h : Heap) (k o : Nat) : AV → AV × Slots × Heap
  | .box cs => (.ptr h.length o, set s k (.ptr h.length 0), h ++ [.cells cs])
  | .ptr i o0 => (.ptr i (o0 + o), s, h)
  | _ => (.any, s, h)
def escX (s : Slots) (h : Heap) (t : Nat) : AV → AV × Slots × Heap
  | .box cs => (.ptr h.length 0, set s t (.ptr h.length 0), h ++ [.cells cs])
  | .place k o => escQ s h k o (s k)
  | x => ((frzA s t x).1, (frzA s t x).2, h)
theorem esc_tmp (s : Slots) (h : Heap) (t : Nat) : esc s h (.tmp t) = escX s h t (s t) := by
  simp only [esc, escX, escA, frz_tmp]
  cases s t <;> first
    | rfl
    | (rename_i k o
       simp only [escP, escQ, frzA]
       cases s k <;> rfl)
theorem escX_place (s : Slots) (h : Heap) (t k o : Nat) : escX s h t (.place k o) = escQ s h k o (s k) := id rfl
theorem escQ_box (s : Slots) (h : Heap) (k o : Nat) (cs : List AV) : escQ s h k o (.box cs) = (.ptr h.length o, set s k (.ptr h.length 0), h ++ [.cells cs]) := id rfl
theorem escQ_ptr (s : Slots) (h : Heap) (k o i o0 : Nat) : escQ s h k o (.ptr i o0) = (.ptr i (o0 + o), s, h) := id rfl
theorem tkA_box (s : Slots) (t : Nat) (cs : List AV) : tkA s t (.box cs) = (.place t 0, s) := id rfl
theorem tkA_place (s : Slots) (t k o : Nat) : tkA s t (.place k o) = (.place k o, s) := id rfl
theorem esc_const (s : Slots) (h : Heap) (x : Value) : esc s h (.const x) = (val (cst x), s, h) := id rfl
theorem esc_func (s : Slots) (h : Heap) (f : FuncId) : esc s h (.func f) = (.clo f [], s, h) := id rfl
theorem escs_nil (s : Slots) (h : Heap) : escs s h [] = ([], s, h) := id rfl
theorem escs_cons (s : Slots) (h : Heap) (o : Operand) (r : List Operand) : escs s h (o :: r) = ((esc s h o).1 :: (escs (esc s h o).2.1 (esc s h o).2.2 r).1, (escs (esc s h o).2.1 (esc s h o).2.2 r).2) := id rfl
theorem escX_box (s : Slots) (h : Heap) (t : Nat) (cs : List AV) : escX s h t (.box cs) = (.ptr h.length 0, set s t (.ptr h.length 0), h ++ [.cells cs]) := id rfl
theorem escX_own (s : Slots) (h : Heap) (t : Nat) (m : Bool) (e sz : Nat) (xs : List AV) : escX s h t (.own m e sz xs) = (.sl sz xs, set s t (.own false e sz xs), h) := id rfl
theorem escX_alias (s : Slots) (h : Heap) (t k : Nat) : escX s h t (.alias k) = ((frzAl s k (s k)).1, (frzAl s k (s k)).2, h) := id rfl
theorem escX_v (s : Slots) (h : Heap) (t : Nat) (x : Value) : escX s h t (.v x) = ((.v x), s, h) := id rfl
theorem escX_sl (s : Slots) (h : Heap) (t : Nat) (sz : Nat) (xs : List AV) : escX s h t (.sl sz xs) = ((.sl sz xs), s, h) := id rfl
theorem escX_agg (s : Slots) (h : Heap) (t : Nat) (xs : List AV) : escX s h t (.agg xs) = ((.agg xs), s, h) := id rfl
theorem escX_tup (s : Slots) (h : Heap) (t : Nat) (xs : List AV) : escX s h t (.tup xs) = ((.tup xs), s, h) := id rfl
theorem escX_eptr (s : Slots) (h : Heap) (t : Nat) (xs : List AV) : escX s h t (.eptr xs) = ((.eptr xs), s, h) := id rfl
theorem escX_ptr (s : Slots) (h : Heap) (t : Nat) (i o : Nat) : escX s h t (.ptr i o) = ((.ptr i o), s, h) := id rfl
theorem escX_mp (s : Slots) (h : Heap) (t : Nat) (i : Nat) : escX s h t (.mp i) = ((.mp i), s, h) := id rfl
theorem escX_clo (s : Slots) (h : Heap) (t : Nat) (f : FuncId) (xs : List AV) : escX s h t (.clo f xs) = ((.clo f xs), s, h) := id rfl
theorem escX_any (s : Slots) (h : Heap) (t : Nat)  : escX s h t .any = (.any, s, h) := id rfl
theorem ev_global {s : Slots} {i : Nat} {cs : List AV} (h : globTab i = some cs) : ev s (.global i) = .eptr cs := by simp only [ev, h]
theorem mv_global {s : Slots} {i : Nat} {cs : List AV} (h : globTab i = some cs) : mv s (.global i) = .eptr cs := by simp only [mv, ev, h]; rfl
theorem ev_tmp (s : Slots) (t : Nat) : ev s (.tmp t) = s t := id rfl
theorem ev_const (s : Slots) (x : Value) : ev s (.const x) = cst x := id rfl
theorem ev_func (s : Slots) (f : FuncId) : ev s (.func f) = .clo f [] := id rfl
theorem mvA_own (t : Nat) (m : Bool) (e sz : Nat) (xs : List AV) : mvA t (.own m e sz xs) = .alias t := id rfl
theorem mvA_otup (t i : Nat) (m : Bool) (e sz : Nat) (xs rest : List AV) : mvA t (.otup i m e sz xs rest) = .alias t := id rfl
theorem mvA_part (t k i : Nat) : mvA t (.part k i) = .part k i := id rfl
theorem tkA_part (s : Slots) (t k i : Nat) : tkA s t (.part k i) = tkPart s k i (s k) := id rfl
theorem tkPart_otup (s : Slots) (k i i' : Nat) (m : Bool) (e sz : Nat) (xs rest : List AV) : tkPart s k i (.otup i' m e sz xs rest) = bif i' == i then (.own m e sz xs, put s k (.tup rest)) else (.any, s) := by
  by_cases h : i' = i
  · simp [tkPart, h]
  · have h' : (i' == i) = false := by simpa using h
    simp [tkPart, h, h']
theorem mvA_box (t : Nat) (xs : List AV) : mvA t (.box xs) = .place t 0 := id rfl
theorem mvA_alias (t k : Nat) : mvA t (.alias k) = .alias k := id rfl
theorem mvA_place (t k o : Nat) : mvA t (.place k o) = .place k o := id rfl
theorem mvA_elt (t k sz i o : Nat) : mvA t (.elt k sz i o) = .elt k sz i o := id rfl
theorem tkA_own (s : Slots) (t : Nat) (m : Bool) (e sz : Nat) (xs : List AV) : tkA s t (.own m e sz xs) = (.own m e sz xs, set s t .any) := id rfl
theorem tkA_alias (s : Slots) (t k : Nat) : tkA s t (.alias k) = tkAl s k (s k) := id rfl
theorem tkAl_own (s : Slots) (k : Nat) (m : Bool) (e sz : Nat) (xs : List AV) : tkAl s k (.own m e sz xs) = (.own m e sz xs, put s k .any) := id rfl
theorem frzA_own (s : Slots) (t : Nat) (m : Bool) (e sz : Nat) (xs : List AV) : frzA s t (.own m e sz xs) = (.sl sz xs, set s t (.own false e sz xs)) := id rfl
theorem frzA_alias (s : Slots) (t k : Nat) : frzA s t (.alias k) = frzAl s k (s k) := id rfl
theorem frzAl_own (s : Slots) (k : Nat) (m : Bool) (e sz : Nat) (xs : List AV) : frzAl s k (.own m e sz xs) = (.sl sz xs, set s k (.own false e sz xs)) := id rfl
theorem look_alias (s : Slots) (k : Nat) : look s (.alias k) = lookAl (s k) := id rfl
theorem lookAl_own (m : Bool) (e sz : Nat) (xs : List AV) : lookAl (.own m e sz xs) = .sl sz xs := id rfl
theorem look_own (s : Slots) (m : Bool) (e sz : Nat) (xs : List AV) : look s (.own m e sz xs) = .sl sz xs := id rfl
theorem cst_int (k : IntKind) (n : Int) : cst (.int k n) = .v (.int k n) := id rfl
theorem cst_bool (b : Bool) : cst (.bool b) = .v (.bool b) := id rfl
theorem cst_string (b : ByteArray) : cst (.string b) = .v (.string b) := id rfl
theorem cst_nil : cst (.slice none 0 0) = .v (.slice none 0 0) := id rfl
theorem cst_nilp : cst (.pointer none) = .v (.pointer none) := id rfl
theorem cst_nilm : cst (.map none) = .v (.map none) := id rfl
theorem mvA_iter (t i n : Nat) (l : List Nat) (c : Nat) : mvA t (.iter i n l c) = .any := id rfl
theorem tkA_iter (s : Slots) (t i n : Nat) (l : List Nat) (c : Nat) : tkA s t (.iter i n l c) = (.any, s) := id rfl
theorem mvA_v (t : Nat) (x : Value) : mvA t (.v x) = (.v x) := id rfl
theorem tkA_v (s : Slots) (t : Nat) (x : Value) : tkA s t (.v x) = ((.v x), s) := id rfl
theorem frzA_v (s : Slots) (t : Nat) (x : Value) : frzA s t (.v x) = ((.v x), s) := id rfl
theorem look_v (s : Slots) (x : Value) : look s (.v x) = (.v x) := id rfl
@[simp] theorem val_v (x : Value) : val (.v x) = (.v x) := id rfl
theorem res1_v (x : Value) : res1 (.v x) = (.v x) := id rfl
theorem mvA_sl (t : Nat) (sz : Nat) (xs : List AV) : mvA t (.sl sz xs) = (.sl sz xs) := id rfl
theorem tkA_sl (s : Slots) (t : Nat) (sz : Nat) (xs : List AV) : tkA s t (.sl sz xs) = ((.sl sz xs), s) := id rfl
theorem frzA_sl (s : Slots) (t : Nat) (sz : Nat) (xs : List AV) : frzA s t (.sl sz xs) = ((.sl sz xs), s) := id rfl
theorem look_sl (s : Slots) (sz : Nat) (xs : List AV) : look s (.sl sz xs) = (.sl sz xs) := id rfl
@[simp] theorem val_sl (sz : Nat) (xs : List AV) : val (.sl sz xs) = (.sl sz xs) := id rfl
theorem res1_sl (sz : Nat) (xs : List AV) : res1 (.sl sz xs) = (.sl sz xs) := id rfl
theorem mvA_agg (t : Nat) (xs : List AV) : mvA t (.agg xs) = (.agg xs) := id rfl
theorem tkA_agg (s : Slots) (t : Nat) (xs : List AV) : tkA s t (.agg xs) = ((.agg xs), s) := id rfl
theorem frzA_agg (s : Slots) (t : Nat) (xs : List AV) : frzA s t (.agg xs) = ((.agg xs), s) := id rfl
theorem look_agg (s : Slots) (xs : List AV) : look s (.agg xs) = (.agg xs) := id rfl
@[simp] theorem val_agg (xs : List AV) : val (.agg xs) = (.agg xs) := id rfl
theorem res1_agg (xs : List AV) : res1 (.agg xs) = (.agg xs) := id rfl
theorem mvA_tup (t : Nat) (xs : List AV) : mvA t (.tup xs) = (.tup xs) := id rfl
theorem tkA_tup (s : Slots) (t : Nat) (xs : List AV) : tkA s t (.tup xs) = ((.tup xs), s) := id rfl
theorem frzA_tup (s : Slots) (t : Nat) (xs : List AV) : frzA s t (.tup xs) = ((.tup xs), s) := id rfl
theorem look_tup (s : Slots) (xs : List AV) : look s (.tup xs) = (.tup xs) := id rfl
@[simp] theorem val_tup (xs : List AV) : val (.tup xs) = (.tup xs) := id rfl
theorem res1_tup (xs : List AV) : res1 (.tup xs) = (.tup xs) := id rfl
theorem mvA_eptr (t : Nat) (xs : List AV) : mvA t (.eptr xs) = (.eptr xs) := id rfl
theorem tkA_eptr (s : Slots) (t : Nat) (xs : List AV) : tkA s t (.eptr xs) = ((.eptr xs), s) := id rfl
theorem frzA_eptr (s : Slots) (t : Nat) (xs : List AV) : frzA s t (.eptr xs) = ((.eptr xs), s) := id rfl
theorem look_eptr (s : Slots) (xs : List AV) : look s (.eptr xs) = (.eptr xs) := id rfl
@[simp] theorem val_eptr (xs : List AV) : val (.eptr xs) = (.eptr xs) := id rfl
theorem res1_eptr (xs : List AV) : res1 (.eptr xs) = (.eptr xs) := id rfl
theorem mvA_ptr (t : Nat) (i o : Nat) : mvA t (.ptr i o) = (.ptr i o) := id rfl
theorem tkA_ptr (s : Slots) (t : Nat) (i o : Nat) : tkA s t (.ptr i o) = ((.ptr i o), s) := id rfl
theorem frzA_ptr (s : Slots) (t : Nat) (i o : Nat) : frzA s t (.ptr i o) = ((.ptr i o), s) := id rfl
theorem look_ptr (s : Slots) (i o : Nat) : look s (.ptr i o) = (.ptr i o) := id rfl
@[simp] theorem val_ptr (i o : Nat) : val (.ptr i o) = (.ptr i o) := id rfl
theorem res1_ptr (i o : Nat) : res1 (.ptr i o) = (.ptr i o) := id rfl
theorem mvA_mp (t : Nat) (i : Nat) : mvA t (.mp i) = (.mp i) := id rfl
theorem tkA_mp (s : Slots) (t : Nat) (i : Nat) : tkA s t (.mp i) = ((.mp i), s) := id rfl
theorem frzA_mp (s : Slots) (t : Nat) (i : Nat) : frzA s t (.mp i) = ((.mp i), s) := id rfl
theorem look_mp (s : Slots) (i : Nat) : look s (.mp i) = (.mp i) := id rfl
@[simp] theorem val_mp (i : Nat) : val (.mp i) = (.mp i) := id rfl
theorem res1_mp (i : Nat) : res1 (.mp i) = (.mp i) := id rfl
theorem mvA_clo (t : Nat) (f : FuncId) (xs : List AV) : mvA t (.clo f xs) = (.clo f xs) := id rfl
theorem tkA_clo (s : Slots) (t : Nat) (f : FuncId) (xs : List AV) : tkA s t (.clo f xs) = ((.clo f xs), s) := id rfl
theorem frzA_clo (s : Slots) (t : Nat) (f : FuncId) (xs : List AV) : frzA s t (.clo f xs) = ((.clo f xs), s) := id rfl
theorem look_clo (s : Slots) (f : FuncId) (xs : List AV) : look s (.clo f xs) = (.clo f xs) := id rfl
@[simp] theorem val_clo (f : FuncId) (xs : List AV) : val (.clo f xs) = (.clo f xs) := id rfl
theorem res1_clo (f : FuncId) (xs : List AV) : res1 (.clo f xs) = (.clo f xs) := id rfl
theorem mvA_any (t : Nat)  : mvA t .any = .any := id rfl
theorem tkA_any (s : Slots) (t : Nat)  : tkA s t .any = (.any, s) := id rfl
theorem frzA_any (s : Slots) (t : Nat)  : frzA s t .any = (.any, s) := id rfl
theorem look_any (s : Slots)  : look s .any = .any := id rfl
@[simp] theorem val_any  : val .any = .any := id rfl
theorem res1_any  : res1 .any = .any := id rfl
theorem res1_own (m : Bool) (e sz : Nat) (xs : List AV) : res1 (.own m e sz xs) = .own m e sz xs := id rfl

theorem awp_skip (s : Slots) (h : Heap) (Q : Out → Slots → Heap → Prop) : awp P T .skip s h Q = Q .normal s h := id rfl
theorem awp_region (i : Nat) (l : List Oper) (s : Slots) (h : Heap) (Q : Out → Slots → Heap → Prop) : awp P T (.region i (List.toArray l) false) s h Q = awpOps P T (List.toArray l) l s h (hid (Q .normal) .mk) := id rfl
theorem awp_seq (a b : Code) (s : Slots) (h : Heap) (Q : Out → Slots → Heap → Prop) : awp P T (.seq a b) s h Q = awp P T a s h (hid (fun o s' h' => thenO o (hid (awp P T b s' h' Q) .mk) (hid (Q o s' h') .mk)) .mk) := id rfl
theorem awp_cond (c : Operand) (a b : Code) (s : Slots) (h : Heap) (Q : Out → Slots → Heap → Prop) : awp P T (.cond c a b) s h Q = condA (ev s c) (hid (awp P T a s h Q) .mk) (hid (awp P T b s h Q) .mk) := id rfl
theorem awp_block (i : Nat) (b : Code) (s : Slots) (h : Heap) (Q : Out → Slots → Heap → Prop) : awp P T (.block i b) s h Q = awp P T b s h (hid (fun o s' h' => Q (blockO i o) s' h') .mk) := id rfl
theorem awp_scope (b : Code) (s : Slots) (h : Heap) (Q : Out → Slots → Heap → Prop) : awp P T (.scope b) s h Q = awp P T b s h Q := id rfl
theorem awp_label (i : Nat) (s : Slots) (h : Heap) (Q : Out → Slots → Heap → Prop) : awp P T (.label i) s h Q = Q .normal s h := id rfl
theorem awp_exit (i : Nat) (s : Slots) (h : Heap) (Q : Out → Slots → Heap → Prop) : awp P T (.exit i) s h Q = Q (.exit i) s h := id rfl
theorem awp_ret (s : Slots) (h : Heap) (Q : Out → Slots → Heap → Prop) : awp P T .ret s h Q = Q .ret s h := id rfl
theorem thenO_n (A B : Prop) (u : Tg A) : thenO .normal (hid A u) B = A := id rfl
theorem thenO_e (i : Nat) (A B : Prop) (u : Tg B) : thenO (.exit i) A (hid B u) = B := id rfl
theorem thenO_r (A B : Prop) (u : Tg B) : thenO .ret A (hid B u) = B := id rfl
theorem blockO_n (i : Nat) : blockO i .normal = .normal := id rfl
theorem blockO_r (i : Nat) : blockO i .ret = .ret := id rfl
theorem blockO_e (i j : Nat) : blockO i (.exit j) = bif j == i then .normal else .exit j := by
  by_cases h : j = i
  · simp [blockO, h]
  · have h' : (j == i) = false := by simpa using h
    simp [blockO, h, h']
theorem endO_n (A : Prop) (u : Tg A) : endO .normal (hid A u) = A := id rfl
theorem endO_r (A : Prop) (u : Tg A) : endO .ret (hid A u) = A := id rfl
theorem awpOps_nil (ops : Array Oper) (s : Slots) (h : Heap) (K : Slots → Heap → Prop) : awpOps P T ops [] s h K = K s h := id rfl
theorem awpOps_cons (ops : Array Oper) (o : Oper) (r : List Oper) (s : Slots) (h : Heap) (K : Slots → Heap → Prop) : awpOps P T ops (o :: r) s h K = awpAt P T ops o s h (hid (fun s' h' => awpOps P T ops r s' h' K) .mk) := id rfl
theorem awpAt_none (ops : Array Oper) (d : Option Tmp) (op : Op) (ty : TypeId) (pos : String) (af : Array Edge) (s : Slots) (h : Heap) (K : Slots → Heap → Prop) :
    awpAt P T ops ⟨d, op, ty, pos, af, none⟩ s h K = awpOp P T op s h (hid (fun x s' h' => K (putD d s' x) h') .mk) := id rfl
theorem awpAt_some (ops : Array Oper) (d : Option Tmp) (op : Op) (ty : TypeId) (pos : String) (af : Array Edge) (j : Nat) (want : Bool) (s : Slots) (h : Heap) (K : Slots → Heap → Prop) :
    awpAt P T ops ⟨d, op, ty, pos, af, some (j, want)⟩ s h K = awpGuard want ((ops[j]?).bind (·.dst)) s (hid (fun s => awpOp P T op s h (hid (fun x s' h' => K (putD d s' x) h') .mk)) .mk) (hid (fun s => K (putD d s (.tup [])) h) .mk) := id rfl
theorem awpGuard_some (want : Bool) (d : Nat) (s : Slots) (A B : Slots → Prop) : awpGuard want (some d) s A B = guardA want d (s d) s A B := id rfl
theorem guardA_tup (want : Bool) (d : Nat) (vs : List AV) (s : Slots) (A B : Slots → Prop) : guardA want d (.tup vs) s A B = B s := id rfl
theorem guardA_tt (d : Nat) (s : Slots) (A B : Slots → Prop) : guardA true d (.v (.bool true)) s A B = A (set s d (.v (.bool true))) := by simp [guardA]
theorem guardA_tf (d : Nat) (s : Slots) (A B : Slots → Prop) : guardA true d (.v (.bool false)) s A B = B (set s d (.v (.bool false))) := by simp [guardA]
theorem guardA_ft (d : Nat) (s : Slots) (A B : Slots → Prop) : guardA false d (.v (.bool true)) s A B = B (set s d (.v (.bool true))) := by simp [guardA]
theorem guardA_ff (d : Nat) (s : Slots) (A B : Slots → Prop) : guardA false d (.v (.bool false)) s A B = A (set s d (.v (.bool false))) := by simp [guardA]
theorem guard_intro {want b : Bool} {d : Nat} {s : Slots} {A B : Slots → Prop} (h1 : b = want → A (set s d (.v (.bool want)))) (h2 : b = !want → B (set s d (.v (.bool (!want))))) {u : Tg A} {u' : Tg B} : guardA want d (.v (.bool b)) s (hid A u) (hid B u') := ⟨h1, h2⟩
theorem putD_some (d : Nat) (s : Slots) (x : AV) : putD (some d) s x = put s d x := id rfl
theorem putD_none (s : Slots) (x : AV) : putD none s x = s := id rfl
theorem condA_t (A B : Prop) (u : Tg A) : condA (.v (.bool true)) (hid A u) B = A := by simp [condA, hid]
theorem condA_f (A B : Prop) (u : Tg B) : condA (.v (.bool false)) A (hid B u) = B := by simp [condA, hid]
theorem cond_intro {b : Bool} {A B : Prop} {u : Tg A} {u' : Tg B} (h1 : b = true → A) (h2 : b = false → B) : condA (.v (.bool b)) (hid A u) (hid B u') := ⟨h1, h2⟩

variable (s : Slots) (h : Heap) (K : AV → Slots → Heap → Prop)
theorem awpOp_move (x : Operand) : awpOp P T (.move x) s h K = K (mv s x) s h := id rfl
theorem awpOp_assign (x : Operand) : awpOp P T (.assign x) s h K = K (tk s x).1 (tk s x).2 h := id rfl
theorem awpOp_pick (c a b : Operand) : awpOp P T (.pick c a b) s h K = condA (ev s c) (hid (K (val (ev s a)) s h) .mk) (hid (K (val (ev s b)) s h) .mk) := id rfl
theorem awpOp_bin (op : BinOp) (t t' : TypeId) (x y : Operand) : awpOp P T (.binOp op t x y t') s h K = awpBinX P op t (look s (ev s x)) (look s (ev s y)) (hid (fun v => K (.v v) s h) .mk) := id rfl
theorem binX_int (op : BinOp) (t : TypeId) (x : AV) (k : IntKind) (n : Int) (KV : Value → Prop) : awpBinX P op t x (.v (.int k n)) KV = awpBin P op t x (.v (.int k n)) KV := id rfl
theorem binX_bool (op : BinOp) (t : TypeId) (x : AV) (b : Bool) (KV : Value → Prop) : awpBinX P op t x (.v (.bool b)) KV = awpBin P op t x (.v (.bool b)) KV := id rfl
theorem binX_str (op : BinOp) (t : TypeId) (x : AV) (b : ByteArray) (KV : Value → Prop) : awpBinX P op t x (.v (.string b)) KV = awpBin P op t x (.v (.string b)) KV := id rfl
theorem eqK_eql (b : Bool) (KV : Value → Prop) : eqK .eql b KV = KV (.bool b) := id rfl
theorem eqK_neq (b : Bool) (KV : Value → Prop) : eqK .neq b KV = KV (.bool (!b)) := id rfl
theorem nilSl_nil (KB : Bool → Prop) : nilSl (.v (.slice none 0 0)) KB = KB true := id rfl
theorem nilSl_cons (sz : Nat) (x : AV) (xs : List AV) (KB : Bool → Prop) : nilSl (.sl sz (x :: xs)) KB = KB false := id rfl
theorem nilPt_nil (KB : Bool → Prop) : nilPt (.v (.pointer none)) KB = KB true := id rfl
theorem nilPt_ptr (i o : Nat) (KB : Bool → Prop) : nilPt (.ptr i o) KB = KB false := id rfl
theorem nilPt_eptr (cs : List AV) (KB : Bool → Prop) : nilPt (.eptr cs) KB = KB false := id rfl
theorem nilMp_nil (KB : Bool → Prop) : nilMp (.v (.map none)) KB = KB true := id rfl
theorem nilMp_mp (i : Nat) (KB : Bool → Prop) : nilMp (.mp i) KB = KB false := id rfl
theorem nilFn_nil (KB : Bool → Prop) : nilFn (.v .nilFunc) KB = KB true := id rfl
theorem nilFn_clo (f : FuncId) (xs : List AV) (KB : Bool → Prop) : nilFn (.clo f xs) KB = KB false := id rfl
/-- A slice held against nil. -/
theorem nil_slice {op : BinOp} {t e : TypeId} {x : AV} {KV : Value → Prop} (ht : P.underlying t = some (.slice e)) (hK : nilSl x fun b => eqK op b KV) : awpBinX P op t x (.v (.slice none 0 0)) KV := ⟨by simp [ht], hK⟩
theorem nilSl_sl {sz : Nat} {xs : List AV} {KB : Bool → Prop} (h : ∀ b, (b = true → xs = []) → KB b) : nilSl (.sl sz xs) KB := by
  cases xs with
  | nil => exact fun b => h b fun _ => rfl
  | cons x xs => exact h false fun e => by cases e
theorem nil_pointer {op : BinOp} {t e : TypeId} {x : AV} {KV : Value → Prop} (ht : P.underlying t = some (.pointer e)) (hK : nilPt x fun b => eqK op b KV) : awpBinX P op t x (.v (.pointer none)) KV := ⟨by simp [ht], hK⟩
theorem nil_map {op : BinOp} {t k e : TypeId} {x : AV} {KV : Value → Prop} (ht : P.underlying t = some (.map k e)) (hK : nilMp x fun b => eqK op b KV) : awpBinX P op t x (.v (.map none)) KV := ⟨by simp [ht], hK⟩
theorem awpOp_conv (src dst : TypeId) (x : Operand) : awpOp P T (.convert src dst x) s h K = awpCvX P src dst (tk s x) (look s (ev s x)) (ev s x) s (hid (fun v s' => K v s' h) .mk) := id rfl
theorem cvX_str {src dst : TypeId} (hd : P.underlying dst = some .string) (p : AV × Slots) (lk x : AV) (s : Slots) (K : AV → Slots → Prop) : awpCvX P src dst p lk x s K = awpStrOf P src lk (hid (fun v => K v s) .mk) := by unfold awpCvX; rw [hd]; rfl
theorem strOf_sl {src : TypeId} {xs : List AV} {K : AV → Prop} (hb : bytesT P src = true) (l : List UInt8) (hx : xs = l.map encB) (hK : K (.v (.string ⟨l.toArray⟩))) : awpStrOf P src (.sl 1 xs) K := ⟨rfl, hb, l, hx, hK⟩
theorem strOf_nil {src : TypeId} {K : AV → Prop} (hb : bytesT P src = true) (hK : K (.v (.string ⟨#[]⟩))) : awpStrOf P src (.v (.slice none 0 0)) K := ⟨hb, hK⟩
theorem cvX_bytes {src dst : TypeId} {b : ByteArray} {p : AV × Slots} {x : AV} {s : Slots} {K : AV → Slots → Prop} (hb : bytesT P dst = true) (hs : P.underlying src = some .string) (hl : b.size ≤ maxLen) (hK : K (.sl 1 (b.data.toList.map encB)) s) :
    awpCvX P src dst p (.v (.string b)) x s K := by
  have h0 : ∃ e, P.underlying dst = some (.slice e) := by
    unfold bytesT at hb
    split at hb
    · exact ⟨_, by assumption⟩
    · cases hb
  obtain ⟨e, he⟩ := h0
  unfold awpCvX
  rw [he]
  exact ⟨hb, hs, hl, hK⟩
theorem cvX_int {src dst : TypeId} {k : IntKind} (hd : P.underlying dst = some (.int k)) (p : AV × Slots) (k' : IntKind) (n : Int) (x : AV) (s : Slots) (K : AV → Slots → Prop) : awpCvX P src dst p (.v (.int k' n)) x s K = awpCv P src dst p x s K := by unfold awpCvX; rw [hd]
theorem cvi {src dst : TypeId} {k k' : IntKind} {d : TypeDesc} (hs : P.underlying src = some d) (hd : P.underlying dst = some (.int k')) (n : Int) (s' s : Slots) (K : AV → Slots → Prop) :
    awpCvX P src dst (.v (.int k n), s') (.v (.int k n)) (.v (.int k n)) s K = K (.v (.int k' (k'.wrap n))) s := by
  rw [cvX_int hd]
  simp [awpCv, awpConv, hs, hd]
theorem cvX_own {src dst e : TypeId} (hd : P.underlying dst = some (.slice e)) (p : AV × Slots) (sz : Nat) (xs : List AV) (x : AV) (s : Slots) (K : AV → Slots → Prop) : awpCvX P src dst p (.sl sz xs) x s K = awpCv P src dst p x s K := by unfold awpCvX; rw [hd]
theorem bui_copy (t tx : TypeId) (tsA : Array TypeId) (x y : Operand) : awpBui P .copy [t, tx] tsA [x, y] s h K = awpCopy P t (slotOf s x) (look s (ev s y)) s (hid (fun v s' => K v s' h) .mk) := id rfl
def slotA (t : Nat) : AV → Option Nat
  | .own .. => some t
  | .alias k => some k
  | _ => none
theorem slotOf_tmp (s : Slots) (t : Nat) : slotOf s (.tmp t) = slotA t (s t) := by simp only [slotOf, slotA]; cases s t <;> rfl
theorem slotA_own (t : Nat) (m : Bool) (e sz : Nat) (xs : List AV) : slotA t (.own m e sz xs) = some t := id rfl
theorem slotA_alias (t k : Nat) : slotA t (.alias k) = some k := id rfl
theorem awpCopy_some {t e : TypeId} (he : elemSz P t = some (e, 1)) (k : Nat) (y : AV) (s : Slots) (K : AV → Slots → Prop) : awpCopy P t (some k) y s K = copyTo k (s k) y s K := by
  simp only [awpCopy, he, true_and]
theorem copyTo_sl (k e : Nat) (xs ys : List AV) (s : Slots) (K : AV → Slots → Prop) : copyTo k (.own true e 1 xs) (.sl 1 ys) s K = K (.v (.int .i64 (min ys.length xs.length : Nat))) (set s k (.own true e 1 (ys.take xs.length ++ xs.drop ys.length))) := by
  simp only [copyTo, true_and]
theorem awpOp_index (t : TypeId) (x i : Operand) : awpOp P T (.index t x i) s h K = awpIndex P t (ev s x) (ev s i) (hid (fun v => K v s h) .mk) := id rfl
theorem index_str {t : TypeId} {b : ByteArray} {k : IntKind} {n : Int} {K : AV → Prop} (ht : P.underlying t = some .string) (h0 : 0 ≤ n) (h1 : n < b.size) (hK : K (.v (.int .u8 (b.data.toList.getD n.toNat 0).toNat))) : awpIndex P t (.v (.string b)) (.v (.int k n)) K := ⟨ht, ⟨h0, h1⟩, hK⟩
theorem idxX_sl (s : Slots) (e : Option (TypeId × Nat)) (sz : Nat) (xs : List AV) (x i : AV) (K : AV → Prop) : awpIdxX s e none (.sl sz xs) x i K = awpIdx e x i K := id rfl
theorem idxX_v (s : Slots) (e : Option (TypeId × Nat)) (v : Value) (x i : AV) (K : AV → Prop) : awpIdxX s e none (.v v) x i K = awpIdx e x i K := id rfl
theorem idxX_alias (s : Slots) (e : Option (TypeId × Nat)) (k : Nat) (x i : AV) (K : AV → Prop) : awpIdxX s e none (.alias k) x i K = awpIdxO e k (s k) i K := id rfl
theorem idxO_intro {e k sz : Nat} {m : Bool} {e' : TypeId} {xs : List AV} {q : IntKind} {n : Int} {K : AV → Prop} (h0 : 0 ≤ n) (h1 : n < xs.length) (hK : K (.elt k sz n.toNat 0)) : awpIdxO (some (e, sz)) k (.own m e' sz xs) (.v (.int q n)) K := ⟨rfl, ⟨h0, h1⟩, hK⟩
theorem place_elt (s : Slots) (h : Heap) (k sz i o : Nat) (K : List AV → Prop) : atPlace s h (.elt k sz i o) K = eltA sz i o (s k) K := id rfl
theorem eltA_intro {sz i o : Nat} {m : Bool} {e : TypeId} {xs : List AV} {x : AV} {K : List AV → Prop} (hx : xs[i]? = some x) (hK : K (x.cells.drop o)) : eltA sz i o (.own m e sz xs) K := by
  have hi : i < xs.length := by
    rcases Nat.lt_or_ge i xs.length with h | h
    · exact h
    · rw [List.getElem?_eq_none h] at hx; cases hx
  exact ⟨rfl, hi, fun y hy => by rw [hx] at hy; cases hy; exact hK⟩
theorem nc_elt (k sz i o : Nat) (K : AV → Prop) : awpNc (.elt k sz i o) K = K (.elt k sz i o) := id rfl
theorem fa_elt (off t k sz i o : Nat) (K : AV → Prop) : awpFa (some (off, t)) (.elt k sz i o) K = K (.elt k sz i (o + off)) := id rfl
theorem store_elt {n k sz i o : Nat} {x y : AV} {s : Slots} {h : Heap} {K : AV → Slots → Heap → Prop} (e : TypeId) (xs : List AV) (hs : s k = .own true e sz xs) (hy : xs[i]? = some y) (h1 : solid x = true) (h2 : n = x.cells.length) (h3 : o + n ≤ sz)
    (hre : (reCell y (putCells y.cells o x.cells)).cells = putCells y.cells o x.cells) (hK : K .any (set s k (.own true e sz (xs.set i (reCell y (putCells y.cells o x.cells))))) h) : awpStore (some n) (.elt k sz i o) x s h K := by
  refine ⟨h1, by rw [h2], ?_⟩
  simp only [hs, awpStoreE]
  have hi : i < xs.length := by
    rcases Nat.lt_or_ge i xs.length with h | h
    · exact h
    · rw [List.getElem?_eq_none h] at hy; cases hy
  exact ⟨trivial, by omega, hi, fun z hz => by rw [hy] at hz; cases hz; exact ⟨hre, hK⟩⟩
theorem awpOp_makeMap (t : TypeId) : awpOp P T (.makeMap t none) s h K = K (.mp h.length) s (h ++ [.map [] 0]) := id rfl
theorem awpOp_lookup (t : TypeId) (m k : Operand) (ok : Bool) : awpOp P T (.lookup t m k ok) s h K = awpLookup P t (ev s m) (ev s k) ok h (hid (fun v => K v s h) .mk) := id rfl
theorem awpOp_update (t : TypeId) (m k x : Operand) : awpOp P T (.mapUpdate t m k x) s h K = awpUpdate P t (ev s m) (ev s k) (frz s x).1 h (hid (fun h' => K .any (frz s x).2 h') .mk) := id rfl
theorem awpOp_insert (t : TypeId) (m k x : Operand) : awpOp P T (.insert t m k x) s h K = awpUpdate P t (ev s m) (ev s k) (frz s x).1 h (hid (fun h' => K .any (frz s x).2 h') .mk) := id rfl
theorem awpOp_range (t : TypeId) (m : Operand) : awpOp P T (.range t m) s h K = awpRange P t (ev s m) h (hid (fun v => K v s h) .mk) := id rfl
theorem awpOp_next (t : Nat) : awpOp P T (.next (.tmp t) false) s h K = awpNext (s t) s t h (hid (fun v s' => K v s' h) .mk) := id rfl
theorem awpOp_entry (t : Operand) : awpOp P T (.entry t) s h K = awpEntry (ev s t) h (hid (fun v => K v s h) .mk) := id rfl
theorem awpOp_build (t : TypeId) (l : List (Nat × Operand)) : awpOp P T (.build t (List.toArray l)) s h K = awpBuild P t ((l.map (·.1)).zip (frzs s (l.map (·.2))).1) (hid (fun v => K v (frzs s (l.map (·.2))).2 h) .mk) := id rfl
theorem bui_delete (t : TypeId) (ts : List TypeId) (tsA : Array TypeId) (m k : Operand) : awpBui P .delete (t :: ts) tsA [m, k] s h K = awpDelete P t (ev s m) (ev s k) h (hid (fun h' => K (.tup []) s h') .mk) := id rfl
theorem bui_clear (t : TypeId) (tsA : Array TypeId) (m : Operand) : awpBui P .clear [t] tsA [m] s h K = awpClearX P t (ev s m) h (hid (fun h' => K (.tup []) s h') .mk) := id rfl
theorem clearX_mp (t i : Nat) (h : Heap) (KH : Heap → Prop) : awpClearX P t (.mp i) h KH = awpClear P t (.mp i) h KH := _root_.id rfl
theorem clearX_osl (t id off n c : Nat) (h : Heap) (KH : Heap → Prop) : awpClearX P t (.osl id off n c) h KH = awpClearS P t id off n h KH := _root_.id rfl
/-- What a map's type says. -/
def MapT (P : Program) (t kt et : TypeId) (d : TypeDesc) : Prop := P.underlying t = some (.map kt et) ∧ P.underlying kt = some d
theorem lookup_intro {t kt et : TypeId} {d : TypeDesc} {z : Value} {id : Nat} {kv : Value} {ok : Bool} {h : Heap} {K : AV → Prop} (hm : MapT P t kt et d) (hz : (P.info? et).bind (·.zero) = some z) (es : List Ent) (clock : Nat) (hh : h[id]? = some (.map es clock)) (hk : MapKept.IsKey d kv)
    (hks : ∀ e ∈ es, MapKept.IsKey d e.key) (h1 : ∀ e, mget kv es = some e → K (lookRes ok e.val true)) (h2 : mget kv es = none → K (lookRes ok (cst z) false)) : awpLookup P t (.mp id) (.v kv) ok h K := by
  unfold awpLookup withKey
  simp only [hm.1, hm.2]
  refine ⟨hk, ?_⟩
  unfold withMap
  simp only [hh, hz]
  exact ⟨hks, h1, h2⟩
theorem update_intro {t kt et : TypeId} {d : TypeDesc} {id : Nat} {kv : Value} {x : AV} {h : Heap} {K : Heap → Prop} (hm : MapT P t kt et d) (es : List Ent) (clock : Nat) (hh : h[id]? = some (.map es clock)) (hk : MapKept.IsKey d kv)
    (hks : ∀ e ∈ es, MapKept.IsKey d e.key) (hK : K (h.set id (.map (mput kv x clock es) (mclk kv es clock)))) : awpUpdate P t (.mp id) (.v kv) x h K := by
  unfold awpUpdate withKey
  simp only [hm.1, hm.2]
  refine ⟨hk, ?_⟩
  unfold withObj
  simp only [hh]
  exact ⟨hks, hK⟩
theorem delete_intro {t kt et : TypeId} {d : TypeDesc} {id : Nat} {kv : Value} {h : Heap} {K : Heap → Prop} (hm : MapT P t kt et d) (es : List Ent) (clock : Nat) (hh : h[id]? = some (.map es clock)) (hk : MapKept.IsKey d kv)
    (hks : ∀ e ∈ es, MapKept.IsKey d e.key) (hK : K (h.set id (.map (mdel kv es) clock))) : awpDelete P t (.mp id) (.v kv) h K := by
  unfold awpDelete withKey
  simp only [hm.1, hm.2]
  refine ⟨hk, ?_⟩
  unfold withObj
  simp only [hh]
  exact ⟨hks, hK⟩
theorem mapT_of {t kt et : TypeId} {d : TypeDesc} (hm : MapT P t kt et d) : mapT P t = true := by simp [mapT, hm.1]
theorem clear_intro {t kt et : TypeId} {d : TypeDesc} {id : Nat} {h : Heap} {K : Heap → Prop} (hm : MapT P t kt et d) (es : List Ent) (clock : Nat) (hh : h[id]? = some (.map es clock)) (hK : K (h.set id (.map [] clock))) : awpClear P t (.mp id) h K := by
  refine ⟨mapT_of hm, ?_⟩
  unfold withObj
  simp only [hh]
  exact hK
theorem range_intro {t kt et : TypeId} {d : TypeDesc} {id : Nat} {h : Heap} {K : AV → Prop} (hm : MapT P t kt et d) (es : List Ent) (clock : Nat) (hh : h[id]? = some (.map es clock)) (hK : K (.iter id clock [] clock)) : awpRange P t (.mp id) h K := by
  refine ⟨mapT_of hm, ?_⟩
  unfold withObj
  simp only [hh]
  exact hK
theorem next_intro {id since c0 t : Nat} {seen : List Nat} {s : Slots} {h : Heap} {K : AV → Slots → Prop} (es : List Ent) (clock : Nat) (hh : h[id]? = some (.map es clock)) (hb : ∀ e ∈ es, e.born < since) (hc : since ≤ clock)
    (h1 : leftE es seen = [] → K (.tup [.v (.bool false)]) s) (h2 : ∀ e ∈ leftE es seen, K (.tup [.v (.bool true), .v e.key, e.val]) (set s t (.iter id since (seen ++ [e.born]) clock))) : awpNext (.iter id since seen c0) s t h K := by
  unfold awpNext
  simp only [hh]
  exact ⟨⟨hb, hc⟩, h1, h2⟩
theorem entry_intro {id since : Nat} {seen : List Nat} {h : Heap} {K : AV → Prop} (es : List Ent) (clock : Nat) (e : Ent) (hh : h[id]? = some (.map es clock)) (hf : es.find? (fun x => x.born == e.born) = some e)
    (hK : K (.tup [.v e.key, e.val])) : awpEntry (.iter id since (seen ++ [e.born]) clock) h K := by
  unfold awpEntry
  simp only [hh, List.getLast?_concat]
  exact ⟨trivial, ⟨e, hf⟩, fun e' he' => by rw [hf] at he'; cases he'; exact hK⟩
theorem build_intro {t : TypeId} {places : List (Nat × Nat)} {zs : Array Value} {parts : List (Nat × AV)} {K : AV → Prop} (hf : fieldsAt P t = some places) (hz : (P.info? t).bind (·.zero) = some (.agg zs)) (hp : zs.toList.all plain = true) {cs : List AV}
    (hc : fillA places (zs.toList.map .v) parts = some cs) (hK : K (.agg cs)) : awpBuild P t parts K := by
  unfold awpBuild
  simp only [hf, hz, hc]
  exact ⟨by rw [← Array.all_toList]; exact hp, hK⟩
theorem idxX_some (s : Slots) (e : Option (TypeId × Nat)) (len sz : Nat) (m x i : AV) (K : AV → Prop) : awpIdxX s e (some (len, sz)) m x i K = awpArr len sz m i K := id rfl
theorem arr_eptr {len sz : Nat} {cs : List AV} {k : IntKind} {n : Int} {K : AV → Prop} (h0 : 0 ≤ n) (h1 : n < len) (hK : K (.eptr (cs.drop (n.toNat * sz)))) : awpArr len sz (.eptr cs) (.v (.int k n)) K := ⟨⟨h0, h1⟩, hK⟩
theorem arr_place {len sz k' o : Nat} {k : IntKind} {n : Int} {K : AV → Prop} (h0 : 0 ≤ n) (h1 : n < len) (hK : K (.place k' (o + n.toNat * sz))) : awpArr len sz (.place k' o) (.v (.int k n)) K := ⟨⟨h0, h1⟩, hK⟩
theorem awp_draw (i : Nat) (l : List Oper) (s : Slots) (h : Heap) (Q : Out → Slots → Heap → Prop) : awp P T (.region i (List.toArray l) true) s h Q = awpDraw P T (List.toArray l) s h (hid (Q .normal) .mk) := id rfl
theorem draw_pub {ops : Array Oper} {s : Slots} {h : Heap} {K : Slots → Heap → Prop} (ks : List Nat) (t : Tree) (hm : P.follows .mixedOrders = true) (hs : Region.noSelect ops = true) (hc : chk P ops t (Array.replicate ops.size false) none = true) (hd : t.deep ≤ ops.size)
    (hK : awpTree P T ops t (pubs s ks) h K) : awpDraw P T ops s h K := ⟨⟨hm, hs⟩, ks, t, K, hc, hd, hK, fun _ _ h => h⟩
theorem draw_intro {ops : Array Oper} {s : Slots} {h : Heap} {K : Slots → Heap → Prop} (t : Tree) (hm : P.follows .mixedOrders = true) (hs : Region.noSelect ops = true) (hc : chk P ops t (Array.replicate ops.size false) none = true) (hd : t.deep ≤ ops.size)
    (hK : awpTree P T ops t s h K) : awpDraw P T ops s h K := ⟨⟨hm, hs⟩, [], t, K, hc, hd, hK, fun _ _ h => h⟩
theorem draw_cont {ops : Array Oper} {s : Slots} {h : Heap} {K : Slots → Heap → Prop} (ks : List Nat) (t : Tree) (C : Slots → Heap → Prop) (hm : P.follows .mixedOrders = true) (hs : Region.noSelect ops = true) (hc : chk P ops t (Array.replicate ops.size false) none = true) (hd : t.deep ≤ ops.size)
    (hK : awpTree P T ops t (pubs s ks) h C) (hC : ∀ s h, C s h → K s h) : awpDraw P T ops s h K := ⟨⟨hm, hs⟩, ks, t, C, hc, hd, hK, hC⟩
theorem pubs_nil (s : Slots) : pubs s [] = s := id rfl
theorem pubs_cons (s : Slots) (k : Nat) (ks : List Nat) : pubs s (k :: ks) = pubs (pub1 s k (s k)) ks := id rfl
theorem pub1_box (s : Slots) (k : Nat) (cs : List AV) : pub1 s k (.box cs) = set s k (.eptr cs) := id rfl
theorem pub1_own (s : Slots) (k : Nat) (m : Bool) (e sz : Nat) (xs : List AV) : pub1 s k (.own m e sz xs) = set s k (.sl sz xs) := id rfl
def treeA (P : Program) (T : FuncId → Option Spec) (ops : Array Oper) (o : Option Oper) (s : Slots) (h : Heap) (K : Slots → Heap → Prop) : Prop :=
  match o with
  | some o => awpAt P T ops o s h K
  | none => False
def treeT (P : Program) (o : Option Oper) (s : Slots) : Prop :=
  match o with
  | some o => takeOk P s o.op
  | none => True
theorem treeA_some (ops : Array Oper) (o : Oper) (s : Slots) (h : Heap) (K : Slots → Heap → Prop) : treeA P T ops (some o) s h K = awpAt P T ops o s h K := id rfl
theorem treeT_some (o : Oper) (s : Slots) : treeT P (some o) s = takeOk P s o.op := id rfl
theorem take_load (s : Slots) (t : TypeId) (p : Operand) : takeOk P s (.load t p) = eptrA (mv s p) := id rfl
theorem take_conv (s : Slots) (t t' : TypeId) (x : Operand) : takeOk P s (.convert t t' x) = takeC (P.underlying t) (ev s x) := id rfl
theorem takeC_int (k : IntKind) (x : AV) : takeC (some (.int k)) x = True := id rfl
theorem takeC_sl (e : TypeId) (x : AV) : takeC (some (.slice e)) x = slA x := id rfl
theorem slA_sl (sz : Nat) (xs : List AV) : slA (.sl sz xs) = True := id rfl
theorem eptrA_eptr (cs : List AV) : eptrA (.eptr cs) = True := id rfl
theorem take_move (s : Slots) (x : Operand) : takeOk P s (.move x) = True := id rfl
theorem take_pick (s : Slots) (c x y : Operand) : takeOk P s (.pick c x y) = True := id rfl
theorem take_bin (s : Slots) (op : BinOp) (t : TypeId) (x y : Operand) (t' : TypeId) : takeOk P s (.binOp op t x y t') = True := id rfl
theorem take_un (s : Slots) (op : UnOp) (t : TypeId) (x : Operand) : takeOk P s (.unOp op t x) = True := id rfl
theorem take_ext (s : Slots) (x : Operand) (i : Nat) : takeOk P s (.extract x i) = True := id rfl
theorem take_nc (s : Slots) (x : Operand) : takeOk P s (.nilCheck x) = True := id rfl
theorem take_fa (s : Slots) (t : TypeId) (x : Operand) (f : Nat) : takeOk P s (.fieldAddr t x f) = True := id rfl
theorem take_idx (s : Slots) (t : TypeId) (x i : Operand) : takeOk P s (.indexAddr t x i) = True := id rfl
theorem take_index (s : Slots) (t : TypeId) (x i : Operand) : takeOk P s (.index t x i) = True := id rfl
theorem take_slice (s : Slots) (t : TypeId) (x : Operand) (lo hi mx : Option Operand) : takeOk P s (.slice t x lo hi mx) = True := id rfl
theorem take_call (s : Slots) (c : Go.Call) : takeOk P s (.call c) = True := id rfl
theorem tree_done (ops : Array Oper) (s : Slots) (h : Heap) (K : Slots → Heap → Prop) : awpTree P T ops .done s h K = K s h := id rfl
theorem tree_take (l : List Oper) (i : Nat) (t : Tree) (s : Slots) (h : Heap) (K : Slots → Heap → Prop) : awpTree P T (List.toArray l) (.take i t) s h K = (treeT P (l[i]?) s ∧ treeA P T (List.toArray l) (l[i]?) s h (hid (fun s' h' => awpTree P T (List.toArray l) t s' h' K) .mk)) := by
  simp only [awpTree, List.getElem?_toArray]; cases l[i]?
  · simp [treeA, treeT]
  · rfl
theorem tree_one (l : List Oper) (i : Nat) (t : Tree) (s : Slots) (h : Heap) (K : Slots → Heap → Prop) : awpTree P T (List.toArray l) (.alt i t .stop) s h K = treeA P T (List.toArray l) (l[i]?) s h (hid (fun s' h' => awpTree P T (List.toArray l) t s' h' K) .mk) := by
  simp only [awpTree, List.getElem?_toArray, and_true]; cases l[i]? <;> rfl
theorem tree_alt {l : List Oper} {i : Nat} {t r : Tree} {s : Slots} {h : Heap} {K : Slots → Heap → Prop} (h1 : treeA P T (List.toArray l) (l[i]?) s h (hid (fun s' h' => awpTree P T (List.toArray l) t s' h' K) .mk)) (h2 : awpTree P T (List.toArray l) r s h K) : awpTree P T (List.toArray l) (.alt i t r) s h K := by
  refine ⟨?_, h2⟩
  simp only [List.getElem?_toArray]
  revert h1
  cases l[i]? <;> exact id
theorem cv_v (src dst : TypeId) (v : Value) (s' : Slots) (x : AV) (K : AV → Slots → Prop) : awpCv P src dst (.v v, s') x s K = awpConv P src dst x (hid (fun v => K v s) .mk) := id rfl
theorem cv_sl (src dst : TypeId) (sz : Nat) (xs : List AV) (s' : Slots) (x : AV) (K : AV → Slots → Prop) : awpCv P src dst (.sl sz xs, s') x s K = awpConv P src dst x (hid (fun v => K v s) .mk) := id rfl
theorem cv_bytes {t e : TypeId} (hu : P.underlying t = some (.slice e)) (he : P.underlying e = some (.int .u8)) (m : Bool) (e' sz : Nat) (y : AV) (ys : List AV) (s' : Slots) (x : AV) (K : AV → Slots → Prop) :
    awpCv P t t (.own m e' sz (y :: ys), s') x s K = K (.sl sz (y :: ys)) s' := by simp [awpCv, hu, he]
theorem awpOp_bs (t : TypeId) (n : Nat) (l : List (Nat × Operand)) : awpOp P T (.buildSlice t n (List.toArray l)) s h K = awpBS P (elemSz P t) n (l.map (·.1)) (frzs s (l.map (·.2))).1 (hid (fun v => K v (frzs s (l.map (·.2))).2 h) .mk) := id rfl
theorem bs_intro {e sz : Nat} {n : Nat} {ix : List Nat} {xs : List AV} {K : AV → Prop} (hz : ((P.info? e).any fun i => i.zero.isSome) = true) (h1 : 0 < sz) (h2 : n * sz ≤ 16777216) (h3 : ix = List.range n) (h4 : xs.length = n)
    (h5 : ∀ x ∈ xs, solid x = true ∧ x.cells.length = sz) (hK : K (.own true e sz xs)) : awpBS P (some (e, sz)) n ix xs K := ⟨hz, h1, h2, h3, h4, h5, hK⟩
theorem shl_intro {t : TypeId} {k k' : IntKind} {a b : Int} {KV : Value → Prop} (hb : 0 ≤ b) (hK : KV (.int k (k.wrap (a * 2 ^ min b.toNat k.bits)))) : awpBin P .shl t (.v (.int k a)) (.v (.int k' b)) KV := ⟨hb, hK⟩
theorem shr_intro {t : TypeId} {k k' : IntKind} {a b : Int} {KV : Value → Prop} (hb : 0 ≤ b) (hK : KV (.int k (a.fdiv (2 ^ min b.toNat k.bits)))) : awpBin P .shr t (.v (.int k a)) (.v (.int k' b)) KV := ⟨hb, hK⟩
theorem quo_intro {t : TypeId} {k : IntKind} {a b : Int} {KV : Value → Prop} (hb : b ≠ 0) (hK : KV (.int k (k.wrap (a.tdiv b)))) : awpBin P .quo t (.v (.int k a)) (.v (.int k b)) KV := ⟨rfl, hb, hK⟩
theorem rem_intro {t : TypeId} {k : IntKind} {a b : Int} {KV : Value → Prop} (hb : b ≠ 0) (hK : KV (.int k (a.tmod b))) : awpBin P .rem t (.v (.int k a)) (.v (.int k b)) KV := ⟨rfl, hb, hK⟩
theorem awpOp_idx (t : TypeId) (x i : Operand) : awpOp P T (.indexAddr t x i) s h K = awpIdxX s (elemSz P t) (arrSz P t) (mv s x) (ev s x) (ev s i) (hid (fun v => K v s h) .mk) := id rfl
theorem awpOp_load (t : TypeId) (p : Operand) : awpOp P T (.load t p) s h K = atPlace s h (mv s p) (hid (fun cs => ofCells P t cs (hid (fun v => K v s h) .mk)) .mk) := id rfl
theorem awpOp_ext (t : Operand) (i : Nat) : awpOp P T (.extract t i) s h K = awpExtS s (mv s t) i (hid (fun v => K v s h) .mk) := id rfl
theorem extS_tup (s : Slots) (vs : List AV) (i : Nat) (K : AV → Prop) : awpExtS s (.tup vs) i K = awpExt (.tup vs) i K := id rfl
theorem extS_alias (s : Slots) (k i : Nat) (K : AV → Prop) : awpExtS s (.alias k) i K = extAl k i K (s k) := id rfl
theorem extAl_tup (k i : Nat) (K : AV → Prop) (vs : List AV) : extAl k i K (.tup vs) = awpExt (.tup vs) i K := id rfl
theorem extAl_otup (k i i' : Nat) (K : AV → Prop) (m : Bool) (e sz : Nat) (xs rest : List AV) : extAl k i K (.otup i' m e sz xs rest) = bif i' == i then K (.part k i) else awpExt (.tup rest) i K := by
  by_cases h : i' = i
  · simp [extAl, h]
  · have h' : (i' == i) = false := by simpa using h
    simp [extAl, h, h', awpExt]
theorem awpOp_call (x : Operand) (l : List Operand) (ts : Array TypeId) : awpOp P T (.call { callee := .value x, args := List.toArray l, argTypes := ts }) s h K = awpCallV T (ev s x) l s h K := id rfl
theorem callV_clo (f : FuncId) (caps : List AV) (l : List Operand) : awpCallV T (.clo f caps) l s h K = callC T f ((escs s h l).1 ++ caps) (escs s h l).2.1 (escs s h l).2.2 K (hid (awpCallI T f caps l s h K) .mk) := id rfl
def ownSl (t : Nat) : AV → Option Nat
  | .own .. => some t
  | .alias k => some k
  | _ => none
def callI (f : FuncId) (T : Option Spec) (as : List AV) (s3 : Slots) (h2 : Heap) (k0 : Option Nat) (K : AV → Slots → Heap → Prop) (x : AV) : Prop :=
  match T with
  | some S => inCall S as s3 h2 k0 K x
  | none => False
theorem callI_eq (f : FuncId) (t : Nat) (rest : List Operand) : awpCallI T f [] (.tmp t :: rest) s h K = callI f (T f) (escs s h rest).1 (tkA (escs s h rest).2.1 t ((escs s h rest).2.1 t)).2 (escs s h rest).2.2 (ownSl t ((escs s h rest).2.1 t)) K (tkA (escs s h rest).2.1 t ((escs s h rest).2.1 t)).1 := by
  unfold awpCallI callI
  cases T f with
  | none => rfl
  | some S =>
    simp only [tk_tmp]
    congr 1
theorem ownSl_own (t : Nat) (m : Bool) (e sz : Nat) (xs : List AV) : ownSl t (.own m e sz xs) = some t := id rfl
theorem ownSl_alias (t k : Nat) : ownSl t (.alias k) = some k := id rfl
/-- A call that turns a slice of the call's own. -/
theorem call_in {f : FuncId} {xs : List AV} {I : Prop} (hI : I) : callC T f xs s h K (hid I .mk) := .inr hI
theorem callI_intro {S : Spec} {f : FuncId} {R : Option Spec} {as : List AV} {k0 e sz : Nat} {xs : List AV} (hT : R = some S)
    (hn : xs = [] → S (.v (.slice none 0 0) :: as) h fun r h' => h' = h ∧ inNil e sz s k0 h K r)
    (hb : ∀ c, xs.length ≤ c → c ≤ 9223372036854775807 → S (.osl h.length 0 xs.length c :: as) (h ++ [.row e (c * sz) (flat xs)]) fun r h' => ∃ cs, h' = h ++ [.row e (c * sz) cs] ∧ inOut e sz c h.length cs xs s k0 h K r) :
    callI f R as s h (some k0) K (.own true e sz xs) := by
  subst hT
  exact ⟨fun hx => ⟨_, hn hx, fun _ _ q => q⟩, fun c h1 h2 => ⟨_, hb c h1 h2, fun _ _ q => q⟩⟩
theorem mvA_osl (t id off n c : Nat) : mvA t (.osl id off n c) = .osl id off n c := _root_.id rfl
theorem tkA_osl (s : Slots) (t id off n c : Nat) : tkA s t (.osl id off n c) = (.osl id off n c, s) := _root_.id rfl
theorem frzA_osl (s : Slots) (t id off n c : Nat) : frzA s t (.osl id off n c) = (.osl id off n c, s) := _root_.id rfl
theorem look_osl (s : Slots) (id off n c : Nat) : look s (.osl id off n c) = .osl id off n c := _root_.id rfl
theorem val_osl (id off n c : Nat) : val (.osl id off n c) = .osl id off n c := _root_.id rfl
theorem res1_osl (id off n c : Nat) : res1 (.osl id off n c) = .osl id off n c := _root_.id rfl
theorem killed_osl (d id off n c : Nat) : killed d (.osl id off n c) = .osl id off n c := _root_.id rfl
theorem escX_osl (s : Slots) (h : Heap) (t id off n c : Nat) : escX s h t (.osl id off n c) = (.osl id off n c, s, h) := _root_.id rfl
theorem lenA_osl (e id off n c : Nat) (K : AV → Prop) : lenA (some (.slice e)) (.osl id off n c) K = K (.v (.int .i64 n)) := by simp [lenA]
theorem idxX_osl {s : Slots} {e : Option (TypeId × Nat)} {id off n c : Nat} {x i : AV} {K : AV → Prop} : awpIdxX s e none (.osl id off n c) x i K = awpIdxL e id off n i K := _root_.id rfl
theorem idxL_intro {e sz id off n : Nat} {k : IntKind} {q : Int} {K : AV → Prop} (h0 : 0 ≤ q) (h1 : q < n) (hK : K (.ptr id (off + q.toNat * sz))) : awpIdxL (some (e, sz)) id off n (.v (.int k q)) K := ⟨⟨h0, h1⟩, hK⟩
theorem objA_row (o e m : Nat) (cs : List AV) (K : List AV → Prop) : objA o (some (.row e m cs)) K = K (cs.drop o) := _root_.id rfl
theorem sliceO_intro {t e sz id off n c : Nat} {lo hi : Option AV} {l m : Int} {K : AV → Prop} (he : elemSz P t = some (e, sz)) (hl : boundOf 0 lo = some l) (hm : boundOf n hi = some m) (h0 : 0 ≤ l) (h1 : l ≤ m) (h2 : m ≤ n)
    (hK1 : (l = 0 ∨ l < c) → K (.osl id (off + l.toNat * sz) (m.toNat - l.toNat) (c - l.toNat))) (hK2 : ¬ (l = 0 ∨ l < c) → K (.sl sz [])) : awpSlice P t (.osl id off n c) lo hi none K := by
  simp only [awpSlice, he, hl, hm]; exact ⟨trivial, ⟨h0, h1, h2⟩, hK1, hK2⟩
theorem clearS_intro {t e e' m id off n : Nat} {h : Heap} {K : Heap → Prop} {z : Value} (cs : List AV) (hu : P.underlying t = some (.slice e)) (hz : (P.info? e).bind (·.zero) = some z) (hp : plain z = true ∨ ∃ zs, z = .agg zs ∧ zs.all plain = true) (hh : h[id]? = some (.row e' m cs))
    (hf : off + n * z.cells.size ≤ cs.length) (hK : K (h.set id (.row e' m (putCells cs off (List.replicate (n * z.cells.size) .any))))) : awpClearS P t id off n h K := by
  simp only [awpClearS, hu, hz, hh]; exact ⟨hp, hf, hK⟩
theorem clearX_nil {t e sz : Nat} {h : Heap} {K : Heap → Prop} (hu : P.underlying t = some (.slice e)) (hK : K h) : awpClearX P t (.sl sz []) h K := ⟨⟨e, hu⟩, hK⟩
theorem store_row {n i o e m : Nat} {x : AV} {s : Slots} {h : Heap} {K : AV → Slots → Heap → Prop} (cs : List AV) (hs : h[i]? = some (.row e m cs)) (h1 : solid x = true) (h2 : n = x.cells.length) (h3 : o + n ≤ cs.length)
    (hK : K .any s (h.set i (.row e m (putCells cs o x.cells)))) : awpStore (some n) (.ptr i o) x s h K := by
  refine ⟨h1, by rw [h2], ?_⟩
  simp only [hs]
  exact ⟨by omega, hK⟩
theorem ext_0 (x : AV) (r : List AV) (K : AV → Prop) : awpExt (.tup (x :: r)) 0 K = K (val x) := by simp [awpExt]
theorem ext_1 (x y : AV) (r : List AV) (K : AV → Prop) : awpExt (.tup (x :: y :: r)) 1 K = K (val y) := by simp [awpExt]
theorem ext_2 (x y z : AV) (r : List AV) (K : AV → Prop) : awpExt (.tup (x :: y :: z :: r)) 2 K = K (val z) := by simp [awpExt]
theorem ext_3 (x y z u : AV) (r : List AV) (K : AV → Prop) : awpExt (.tup (x :: y :: z :: u :: r)) 3 K = K (val u) := by simp [awpExt]
theorem awpOp_nc (x : Operand) : awpOp P T (.nilCheck x) s h K = awpNc (mv s x) (hid (fun v => K v s h) .mk) := id rfl
theorem nc_place (k o : Nat) (K : AV → Prop) : awpNc (.place k o) K = K (.place k o) := id rfl
theorem nc_eptr (cs : List AV) (K : AV → Prop) : awpNc (.eptr cs) K = K (.eptr cs) := id rfl
theorem nc_ptr (i o : Nat) (K : AV → Prop) : awpNc (.ptr i o) K = K (.ptr i o) := id rfl
theorem awpOp_fa (t : TypeId) (x : Operand) (f : Nat) : awpOp P T (.fieldAddr t x f) s h K = awpFa (fieldOf P t f) (mv s x) (hid (fun v => K v s h) .mk) := id rfl
theorem fa_place (off t k o : Nat) (K : AV → Prop) : awpFa (some (off, t)) (.place k o) K = K (.place k (o + off)) := id rfl
theorem fa_eptr (off t : Nat) (cs : List AV) (K : AV → Prop) : awpFa (some (off, t)) (.eptr cs) K = K (.eptr (cs.drop off)) := id rfl
theorem fa_ptr (off t i o : Nat) (K : AV → Prop) : awpFa (some (off, t)) (.ptr i o) K = K (.ptr i (o + off)) := id rfl
theorem awpOp_field (t : TypeId) (x : Operand) (f : Nat) : awpOp P T (.field t x f) s h K = awpField P (fieldOf P t f) (ev s x) (hid (fun v => K v s h) .mk) := id rfl
theorem field_agg (off t : Nat) (cs : List AV) (K : AV → Prop) : awpField P (some (off, t)) (.agg cs) K = ofCells P t (cs.drop off) K := id rfl
theorem awpOp_box (t : TypeId) (x : Operand) : awpOp P T (.box t x) s h K = awpBox (frz s x).1 (hid (fun v => K v (frz s x).2 h) .mk) := id rfl
theorem awpBox_eq (x : AV) (K : AV → Prop) : awpBox x K = (solid x = true ∧ K (.box x.cells)) := id rfl
theorem box_v (x : Value) (K : AV → Prop) : awpBox (.v x) K = K (.box [.v x]) := by simp [awpBox, solid, AV.cells]
theorem box_sl (sz : Nat) (xs : List AV) (K : AV → Prop) : awpBox (.sl sz xs) K = K (.box [.sl sz xs]) := by simp [awpBox, solid, AV.cells]
theorem box_agg (xs : List AV) (K : AV → Prop) : awpBox (.agg xs) K = K (.box xs) := by simp [awpBox, solid, AV.cells]
theorem box_ptr (i o : Nat) (K : AV → Prop) : awpBox (.ptr i o) K = K (.box [.ptr i o]) := by simp [awpBox, solid, AV.cells]
theorem box_mp (i : Nat) (K : AV → Prop) : awpBox (.mp i) K = K (.box [.mp i]) := by simp [awpBox, solid, AV.cells]
theorem box_clo (f : FuncId) (xs : List AV) (K : AV → Prop) : awpBox (.clo f xs) K = K (.box [.clo f xs]) := by simp [awpBox, solid, AV.cells]
theorem awpOp_alloc (t : TypeId) : awpOp P T (.alloc t) s h K = awpAlloc ((P.info? t).bind (·.zero)) (hid (fun v => K v s h) .mk) := id rfl
theorem alloc_plain {t : TypeId} {z : Value} (hz : (P.info? t).bind (·.zero) = some z) (hp : plain z = true) (K : AV → Prop) : awpAlloc ((P.info? t).bind (·.zero)) K = K (.box (cst z).cells) := by
  simp [awpAlloc, hz, hp]
theorem alloc_agg {t : TypeId} {cs : Array Value} (hz : (P.info? t).bind (·.zero) = some (.agg cs)) (hp : cs.all plain = true) (K : AV → Prop) : awpAlloc ((P.info? t).bind (·.zero)) K = K (.box (cs.toList.map .v)) := by
  have h1 : (cst (.agg cs)).cells = cs.toList.map .v := by simp [cst, hp, AV.cells]
  have h2 : plain (.agg cs) = true ∨ ∃ cs', Value.agg cs = .agg cs' ∧ cs'.all plain = true := .inr ⟨cs, rfl, hp⟩
  unfold awpAlloc
  simp only [hz, h1, h2, true_and]
theorem awpOp_store (t : TypeId) (p x : Operand) : awpOp P T (.store t p x) s h K = awpStore (szT P t) (mv s p) (frz s x).1 (frz s x).2 h K := id rfl
/-- A store, where the place is known. -/
def storeA (p : AV) (x : AV) (n : Nat) (s : Slots) (h : Heap) (K : AV → Slots → Heap → Prop) (c : AV) : Prop :=
  match p, c with
  | .place k o, .box cs => o + n ≤ cs.length ∧ K .any (set s k (.box (putCells cs o x.cells))) h
  | _, _ => False
theorem store_place {n k o : Nat} {x : AV} {s : Slots} {h : Heap} {K : AV → Slots → Heap → Prop} (cs : List AV) (hs : s k = .box cs) (h1 : solid x = true) (h2 : n = x.cells.length) (h3 : o + n ≤ cs.length)
    (hK : K .any (set s k (.box (putCells cs o x.cells))) h) : awpStore (some n) (.place k o) x s h K := by
  refine ⟨h1, by rw [h2], ?_⟩
  simp only [hs]
  exact ⟨by omega, hK⟩
theorem store_ptr {n i o : Nat} {x : AV} {s : Slots} {h : Heap} {K : AV → Slots → Heap → Prop} (cs : List AV) (hs : h[i]? = some (.cells cs)) (h1 : solid x = true) (h2 : n = x.cells.length) (h3 : o + n ≤ cs.length)
    (hK : K .any s (h.set i (.cells (putCells cs o x.cells)))) : awpStore (some n) (.ptr i o) x s h K := by
  refine ⟨h1, by rw [h2], ?_⟩
  simp only [hs]
  exact ⟨by omega, hK⟩
theorem awpOp_mf (f : FuncId) (l : List Operand) : awpOp P T (.makeFunc (.func f) #[] (List.toArray l)) s h K = K (.clo f (escs s h l).1) (escs s h l).2.1 (escs s h l).2.2 := by
  simp [awpOp]
theorem place_ptr (i o : Nat) (KL : List AV → Prop) : atPlace s h (.ptr i o) KL = objA o h[i]? KL := id rfl
theorem objA_cells (o : Nat) (cs : List AV) (KL : List AV → Prop) : objA o (some (.cells cs)) KL = KL (cs.drop o) := id rfl
theorem awpOp_builtin (b : Builtin) (l : List Operand) (ts : List TypeId) : awpOp P T (.call { callee := .builtin b, args := List.toArray l, argTypes := List.toArray ts }) s h K = awpBui P b ts (List.toArray ts) l s h K := id rfl
theorem bui_len (ts : List TypeId) (tsA : Array TypeId) (l : List Operand) : awpBui P .len ts tsA l s h K = awpBuiltin P .len tsA l s h K := id rfl
theorem bui_min (ts : List TypeId) (tsA : Array TypeId) (l : List Operand) : awpBui P .min ts tsA l s h K = awpBuiltin P .min tsA l s h K := id rfl
theorem bui_max (ts : List TypeId) (tsA : Array TypeId) (l : List Operand) : awpBui P .max ts tsA l s h K = awpBuiltin P .max tsA l s h K := id rfl
theorem bui_append (t tx : TypeId) (tsA : Array TypeId) (x y : Operand) : awpBui P .append [t, tx] tsA [x, y] s h K = awpAppend P t tx (tk s x) (fun s' => look s' (ev s' y)) (hid (fun v s' => K v s' h) .mk) := id rfl
theorem awpOp_un (op : UnOp) (t : TypeId) (x : Operand) : awpOp P T (.unOp op t x) s h K = awpUn op (ev s x) (hid (fun v => K (.v v) s h) .mk) := id rfl
theorem un_not (b : Bool) (KV : Value → Prop) : awpUn .not (.v (.bool b)) KV = KV (.bool (!b)) := id rfl
theorem un_neg (k : IntKind) (n : Int) (KV : Value → Prop) : awpUn .neg (.v (.int k n)) KV = KV (.int k (k.wrap (0 - n))) := id rfl
theorem un_xor (k : IntKind) (n : Int) (KV : Value → Prop) : awpUn .xor (.v (.int k n)) KV = KV (.int k (bits .xor k (if k.signed then -1 else k.max) n)) := id rfl
theorem awpOp_slice (t : TypeId) (x : Operand) (lo hi mx : Option Operand) : awpOp P T (.slice t x lo hi mx) s h K = awpSlice P t (frz s x).1 (lo.map (ev s)) (hi.map (ev s)) (mx.map (ev s)) (hid (fun v => K v (frz s x).2 h) .mk) := id rfl
theorem awpOp_make (t : TypeId) (l c : Operand) : awpOp P T (.makeSlice t l c) s h K = awpMake P t (ev s l) (ev s c) (hid (fun v => K v s h) .mk) := id rfl
/-- What is appended to is known. -/
def appB (P : Program) (tx : TypeId) (sz bs : Nat) (m : Bool) (e : TypeId) (xs : List AV) (y : AV) (K : AV → Prop) : Prop :=
  srcOf P tx sz y fun ys => (∀ c ∈ ys, c.cells.length = sz) ∧ (xs.length + ys.length) * (bs + 1) ≤ 140737488355328 ∧ K (.own m e sz (xs ++ ys))
theorem append_own {t tx e sz bs : Nat} (he : elemIn P t = some (e, sz, bs)) (m : Bool) (xs : List AV) (s' : Slots) (y : Slots → AV) (K : AV → Slots → Prop) :
    awpAppend P t tx (.own m e sz xs, s') y K = appB P tx sz bs m e xs (y s') (hid (fun v => K v s') .mk) := by
  simp only [awpAppend, he, appTo, appB, hid, true_and]
theorem append_nil {t tx e sz bs : Nat} (he : elemIn P t = some (e, sz, bs)) (s' : Slots) (y : Slots → AV) (K : AV → Slots → Prop) :
    awpAppend P t tx (.v (.slice none 0 0), s') y K = appB P tx sz bs true e [] (y s') (hid (fun v => K v s') .mk) := by
  simp only [awpAppend, he, appTo, appB, hid]
theorem app_sl {tx sz bs e e' : Nat} {m : Bool} {xs ys : List AV} {K : AV → Prop} (ht : P.underlying tx = some (.slice e')) (hu : ∀ c ∈ ys, c.cells.length = sz)
    (hb : (xs.length + ys.length) * (bs + 1) ≤ 140737488355328) (hK : K (.own m e sz (xs ++ ys))) : appB P tx sz bs m e xs (.sl sz ys) K := by
  refine ⟨rfl, by simp [ht], hu, hb, hK⟩
theorem app_nil {tx sz bs e e' : Nat} {m : Bool} {xs : List AV} {K : AV → Prop} (ht : P.underlying tx = some (.slice e'))
    (hb : xs.length * (bs + 1) ≤ 140737488355328) (hK : K (.own m e sz xs)) : appB P tx sz bs m e xs (.v (.slice none 0 0)) K :=
  ⟨by simp [ht], by simp, by simpa using hb, by simpa using hK⟩
theorem app_str {tx bs e : Nat} {m : Bool} {xs : List AV} {b : ByteArray} {K : AV → Prop} (ht : P.underlying tx = some .string)
    (hb : (xs.length + b.size) * (bs + 1) ≤ 140737488355328) (hK : K (.own m e 1 (xs ++ b.data.toList.map encB))) : appB P tx 1 bs m e xs (.v (.string b)) K :=
  ⟨rfl, ht, fun c hc => by obtain ⟨y, -, rfl⟩ := List.mem_map.1 hc; rfl, by simpa using hb, hK⟩
theorem slice_lh {t e sz : Nat} {xs : List AV} {k k' : IntKind} {l m : Int} {K : AV → Prop} (he : elemSz P t = some (e, sz)) (h0 : 0 ≤ l) (h1 : l ≤ m) (h2 : m ≤ xs.length) (hK : K (.sl sz ((xs.take m.toNat).drop l.toNat))) :
    awpSlice P t (.sl sz xs) (some (.v (.int k l))) (some (.v (.int k' m))) none K := by
  simp only [awpSlice, he, boundOf]; exact ⟨trivial, ⟨h0, h1, h2⟩, trivial, hK⟩
theorem slice_l {t e sz : Nat} {xs : List AV} {k : IntKind} {l : Int} {K : AV → Prop} (he : elemSz P t = some (e, sz)) (h0 : 0 ≤ l) (h1 : l ≤ xs.length) (hK : K (.sl sz (xs.drop l.toNat))) :
    awpSlice P t (.sl sz xs) (some (.v (.int k l))) none none K := by
  simp only [awpSlice, he, boundOf]; exact ⟨trivial, ⟨h0, h1, Int.le_refl _⟩, trivial, by simpa using hK⟩
theorem slice_h {t e sz : Nat} {xs : List AV} {k : IntKind} {m : Int} {K : AV → Prop} (he : elemSz P t = some (e, sz)) (h0 : 0 ≤ m) (h1 : m ≤ xs.length) (hK : K (.sl sz (xs.take m.toNat))) :
    awpSlice P t (.sl sz xs) none (some (.v (.int k m))) none K := by
  simp only [awpSlice, he, boundOf]; exact ⟨trivial, ⟨Int.le_refl _, h0, h1⟩, trivial, by simpa using hK⟩
theorem slice_lhm {t e sz : Nat} {xs : List AV} {k k' k2 : IntKind} {l m q : Int} {K : AV → Prop} (he : elemSz P t = some (e, sz)) (h0 : 0 ≤ l) (h1 : l ≤ m) (h2 : m ≤ q) (h3 : q ≤ xs.length) (hK : K (.sl sz ((xs.take m.toNat).drop l.toNat))) :
    awpSlice P t (.sl sz xs) (some (.v (.int k l))) (some (.v (.int k' m))) (some (.v (.int k2 q))) K := by
  simp only [awpSlice, he, boundOf]; exact ⟨trivial, ⟨h0, h1, by omega⟩, ⟨rfl, rfl, h2, h3⟩, hK⟩
theorem slice_str {t : Nat} {b : ByteArray} {lo hi : Option AV} {l m : Int} {K : AV → Prop} (ht : P.underlying t = some .string) (hl : boundOf 0 lo = some l) (hm : boundOf b.size hi = some m) (h0 : 0 ≤ l) (h1 : l ≤ m) (h2 : m ≤ b.size)
    (hK : K (.v (.string (b.extract l.toNat m.toNat)))) : awpSlice P t (.v (.string b)) lo hi none K := by
  simp only [awpSlice, hl, hm]; exact ⟨ht, trivial, ⟨h0, h1, h2⟩, hK⟩
theorem make_intro {t e sz bs : Nat} {k k' : IntKind} {n c : Int} {z : Value} {K : AV → Prop} (he : elemIn P t = some (e, sz, bs)) (hi : (P.info? e).bind (·.zero) = some z) (hz : plain z = true ∨ ∃ cs, z = .agg cs ∧ cs.all plain = true)
    (h0 : 0 ≤ n) (h1 : n ≤ c) (h2 : c ≤ 9223372036854775807) (h3 : c * bs ≤ 140737488355328) (hK : K (.own true e sz (List.replicate n.toNat (cst z)))) : awpMake P t (.v (.int k n)) (.v (.int k' c)) K := by
  simp only [awpMake, he]
  exact ⟨⟨h0, h1, h2, h3⟩, fun z' hz' => by rw [hi] at hz'; cases hz'; exact ⟨hz, hK⟩⟩

theorem awpB_len (ts : Array TypeId) (o : Operand) : awpBuiltin P .len ts [o] s h K = lenA ((ts[0]?).bind P.underlying) (look s (ev s o)) (hid (fun v => K v s h) .mk) := id rfl
theorem lenA_sl (e sz : Nat) (xs : List AV) (K : AV → Prop) : lenA (some (.slice e)) (.sl sz xs) K = K (.v (.int .i64 xs.length)) := by simp [lenA]
theorem lenA_nil (e : Nat) (K : AV → Prop) : lenA (some (.slice e)) (.v (.slice none 0 0)) K = K (.v (.int .i64 0)) := by simp [lenA]
theorem lenA_str (b : ByteArray) (K : AV → Prop) : lenA (some .string) (.v (.string b)) K = K (.v (.int .i64 b.size)) := by simp [lenA]
theorem awpB_min (ts : Array TypeId) (a b : Operand) : awpBuiltin P .min ts [a, b] s h K = minA (ev s a) (ev s b) (hid (fun v => K v s h) .mk) := id rfl
theorem awpB_max (ts : Array TypeId) (a b : Operand) : awpBuiltin P .max ts [a, b] s h K = maxA (ev s a) (ev s b) (hid (fun v => K v s h) .mk) := id rfl
theorem minA_int (k : IntKind) (x y : Int) (K : AV → Prop) : minA (.v (.int k x)) (.v (.int k y)) K = K (.v (.int k (if y < x then y else x))) := by simp [minA]
theorem maxA_int (k : IntKind) (x y : Int) (K : AV → Prop) : maxA (.v (.int k x)) (.v (.int k y)) K = K (.v (.int k (if x < y then y else x))) := by simp [maxA]

variable (t : TypeId) (k : IntKind) (a b : Int) (KV : Value → Prop)
theorem bin_add : awpBin P .add t (.v (.int k a)) (.v (.int k b)) KV = KV (.int k (k.wrap (a + b))) := by simp [awpBin, intOp]
theorem bin_sub : awpBin P .sub t (.v (.int k a)) (.v (.int k b)) KV = KV (.int k (k.wrap (a - b))) := by simp [awpBin, intOp]
theorem bin_mul : awpBin P .mul t (.v (.int k a)) (.v (.int k b)) KV = KV (.int k (k.wrap (a * b))) := by simp [awpBin, intOp]
theorem bin_and : awpBin P .and t (.v (.int k a)) (.v (.int k b)) KV = KV (.int k (bits .and k a b)) := by simp [awpBin, intOp]
theorem bin_or : awpBin P .or t (.v (.int k a)) (.v (.int k b)) KV = KV (.int k (bits .or k a b)) := by simp [awpBin, intOp]
theorem bin_xor : awpBin P .xor t (.v (.int k a)) (.v (.int k b)) KV = KV (.int k (bits .xor k a b)) := by simp [awpBin, intOp]
theorem bin_eql : awpBin P .eql t (.v (.int k a)) (.v (.int k b)) KV = KV (.bool (a == b)) := by simp [awpBin, intOp]
theorem bin_neq : awpBin P .neq t (.v (.int k a)) (.v (.int k b)) KV = KV (.bool (a != b)) := by simp [awpBin, intOp]
theorem bin_lss : awpBin P .lss t (.v (.int k a)) (.v (.int k b)) KV = KV (.bool (decide (a < b))) := by simp [awpBin, intOp]
theorem bin_leq : awpBin P .leq t (.v (.int k a)) (.v (.int k b)) KV = KV (.bool (decide (a ≤ b))) := by simp [awpBin, intOp]
theorem bin_gtr : awpBin P .gtr t (.v (.int k a)) (.v (.int k b)) KV = KV (.bool (decide (a > b))) := by simp [awpBin, intOp]
theorem bin_geq : awpBin P .geq t (.v (.int k a)) (.v (.int k b)) KV = KV (.bool (decide (a ≥ b))) := by simp [awpBin, intOp]
theorem conv_int {src dst : TypeId} {k k' : IntKind} {d : TypeDesc} (hs : P.underlying src = some d) (hd : P.underlying dst = some (.int k')) (n : Int) (K : AV → Prop) :
    awpConv P src dst (.v (.int k n)) K = K (.v (.int k' (k'.wrap n))) := by simp [awpConv, hs, hd]
theorem place_eptr (cs : List AV) (K : List AV → Prop) : atPlace s h (.eptr cs) K = K cs := id rfl
theorem place_place (k o : Nat) (K : List AV → Prop) : atPlace s h (.place k o) K = boxA h o (s k) K := id rfl
theorem boxA_box (o : Nat) (cs : List AV) (K : List AV → Prop) : boxA h o (.box cs) K = K (cs.drop o) := id rfl
theorem boxA_eptr (o : Nat) (cs : List AV) (K : List AV → Prop) : boxA h o (.eptr cs) K = K (cs.drop o) := id rfl
theorem boxA_ptr (o i o0 : Nat) (K : List AV → Prop) : boxA h o (.ptr i o0) K = objA (o0 + o) h[i]? K := id rfl
theorem idx_intro {e sz : Nat} {xs : List AV} {x : AV} {k : IntKind} {n : Int} {K : AV → Prop} (hx : asSl sz x = some xs) (hb : 0 ≤ n ∧ n < xs.length) (hK : ∀ x, xs[n.toNat]? = some x → K (.eptr x.cells)) :
    awpIdx (some (e, sz)) x (.v (.int k n)) K := by
  simp only [awpIdx, hx]; exact ⟨hb, hK⟩
end eqs

theorem awpFunc_some {P : Program} {T : FuncId → Option Spec} {fn : Func} {c : Code} (hb : fn.body = some c) (args : List AV) (h : Heap) (Q : AV → Heap → Prop) :
    awpFunc P T fn args h Q = awp P T c (init args) h (hid (fun o s h' => endO o (hid (awpRet P fn.results.toList s h' Q) .mk)) .mk) := by
  unfold awpFunc; rw [hb]; rfl
theorem ret1_box (s : Slots) (h : Heap) (t : Nat) (Q : AV → Heap → Prop) (cs : List AV) : ret1 s h t Q (.box cs) = Q (.ptr h.length 0) (h ++ [.cells cs]) := id rfl
def retX (s : Slots) (h : Heap) (t : Nat) (Q : AV → Heap → Prop) : AV → Prop
  | .box cs => Q (.ptr h.length 0) (h ++ [.cells cs])
  | .place k o => Q (escQ s h k o (s k)).1 (escQ s h k o (s k)).2.2
  | x => Q (res1 (tkA s t x).1) h
theorem awpRet_tmp {P : Program} (t : Nat) (s : Slots) (h : Heap) (Q : AV → Heap → Prop) : awpRet P [.tmp t] s h Q = retX s h t Q (s t) := by
  simp only [awpRet, ret1, retX, tk_tmp, esc_tmp]
  cases hst : s t <;> simp only [hst, escX]
theorem retX_place (s : Slots) (h : Heap) (t : Nat) (Q : AV → Heap → Prop) (k o : Nat) : retX s h t Q (.place k o) = Q (escQ s h k o (s k)).1 (escQ s h k o (s k)).2.2 := id rfl
theorem retX_box (s : Slots) (h : Heap) (t : Nat) (Q : AV → Heap → Prop) (cs : List AV) : retX s h t Q (.box cs) = Q (.ptr h.length 0) (h ++ [.cells cs]) := id rfl
theorem retX_own (s : Slots) (h : Heap) (t : Nat) (Q : AV → Heap → Prop) (m : Bool) (e sz : Nat) (xs : List AV) : retX s h t Q (.own m e sz xs) = Q (.own m e sz xs) h := id rfl
theorem retX_alias (s : Slots) (h : Heap) (t : Nat) (Q : AV → Heap → Prop) (k : Nat) : retX s h t Q (.alias k) = Q (res1 (tkAl s k (s k)).1) h := id rfl
theorem retX_v (s : Slots) (h : Heap) (t : Nat) (Q : AV → Heap → Prop) (x : Value) : retX s h t Q (.v x) = Q (.v x) h := id rfl
theorem retX_sl (s : Slots) (h : Heap) (t : Nat) (Q : AV → Heap → Prop) (sz : Nat) (xs : List AV) : retX s h t Q (.sl sz xs) = Q (.sl sz xs) h := id rfl
theorem retX_agg (s : Slots) (h : Heap) (t : Nat) (Q : AV → Heap → Prop) (xs : List AV) : retX s h t Q (.agg xs) = Q (.agg xs) h := id rfl
theorem retX_tup (s : Slots) (h : Heap) (t : Nat) (Q : AV → Heap → Prop) (xs : List AV) : retX s h t Q (.tup xs) = Q (.tup xs) h := id rfl
theorem retX_eptr (s : Slots) (h : Heap) (t : Nat) (Q : AV → Heap → Prop) (xs : List AV) : retX s h t Q (.eptr xs) = Q (.eptr xs) h := id rfl
theorem retX_ptr (s : Slots) (h : Heap) (t : Nat) (Q : AV → Heap → Prop) (i o : Nat) : retX s h t Q (.ptr i o) = Q (.ptr i o) h := id rfl
theorem retX_mp (s : Slots) (h : Heap) (t : Nat) (Q : AV → Heap → Prop) (i : Nat) : retX s h t Q (.mp i) = Q (.mp i) h := id rfl
theorem retX_clo (s : Slots) (h : Heap) (t : Nat) (Q : AV → Heap → Prop) (f : FuncId) (xs : List AV) : retX s h t Q (.clo f xs) = Q (.clo f xs) h := id rfl
theorem retX_any (s : Slots) (h : Heap) (t : Nat) (Q : AV → Heap → Prop)  : retX s h t Q .any = Q .any h := id rfl
theorem retX_osl (s : Slots) (h : Heap) (t : Nat) (Q : AV → Heap → Prop) (id off n c : Nat) : retX s h t Q (.osl id off n c) = Q (.osl id off n c) h := _root_.id rfl
theorem awpRet_cell {P : Program} (a t : Nat) (s : Slots) (h : Heap) (Q : AV → Heap → Prop) : awpRet P [.cell a t] s h Q = atPlace s h (mvA a (s a)) (hid (fun cs => ofCells P t cs (hid (fun v => Q v h) .mk)) .mk) := by
  simp only [awpRet, mv_tmp]; rfl
theorem awpRet_many {P : Program} (a b : ResultVar) (r : List ResultVar) (s : Slots) (h : Heap) (Q : AV → Heap → Prop) : awpRet P (a :: b :: r) s h Q = awpResults P (a :: b :: r) s h (hid (fun vs _ h' => Q (.tup vs) h') .mk) := by cases a <;> rfl
theorem awpRet_zero {P : Program} (s : Slots) (h : Heap) (Q : AV → Heap → Prop) : awpRet P [] s h Q = Q (.tup []) h := id rfl
theorem awpFuncO_some {P : Program} {T : FuncId → Option Spec} {i : Nat} {fn : Func} {c : Code} (hb : fn.body = some c) (args : List AV) (h : Heap) (Q : AV → Heap → Prop) :
    awpFuncO P T i fn args h Q = awp P T c (init args) h (hid (fun o s h' => endO o (hid (awpRetO P i fn.results.toList s h' Q) .mk)) .mk) := by
  unfold awpFuncO; rw [hb]; rfl
def retOX (P : Program) (i : Nat) (x : Option ResultVar) (rs : List ResultVar) (s : Slots) (h : Heap) (Q : AV → Heap → Prop) : Prop :=
  match x with
  | some (.tmp t) => awpResO P i rs s h (hid (fun vs s' h' => ownTup i vs (hid (fun x => Q x h') .mk) (tkA s' t (s' t)).1) .mk)
  | _ => False
theorem awpRetO_eq {P : Program} (i : Nat) (a b : ResultVar) (r : List ResultVar) (s : Slots) (h : Heap) (Q : AV → Heap → Prop) : awpRetO P i (a :: b :: r) s h Q = retOX P i (a :: b :: r)[i]? (a :: b :: r) s h Q := by
  unfold awpRetO retOX
  cases hx : (a :: b :: r)[i]? with
  | none => rfl
  | some x => cases x <;> simp [hid, tk_tmp]
theorem retOX_tmp {P : Program} (i t : Nat) (rs : List ResultVar) (s : Slots) (h : Heap) (Q : AV → Heap → Prop) : retOX P i (some (.tmp t)) rs s h Q = awpResO P i rs s h (hid (fun vs s' h' => ownTup i vs (hid (fun x => Q x h') .mk) (tkA s' t (s' t)).1) .mk) := id rfl
theorem resO_nil {P : Program} (i : Nat) (s : Slots) (h : Heap) (K : List AV → Slots → Heap → Prop) : awpResO P i [] s h K = K [] s h := by cases i <;> rfl
theorem resO_0 {P : Program} (t : Nat) (r : List ResultVar) (s : Slots) (h : Heap) (K : List AV → Slots → Heap → Prop) : awpResO P 0 (.tmp t :: r) s h K = awpResults P r s h (hid (fun vs s' h' => K (.any :: vs) s' h') .mk) := id rfl
theorem resO_s {P : Program} (n t : Nat) (r : List ResultVar) (s : Slots) (h : Heap) (K : List AV → Slots → Heap → Prop) : awpResO P (n + 1) (.tmp t :: r) s h K = awpResO P n r (escX s h t (s t)).2.1 (escX s h t (s t)).2.2 (hid (fun vs s' h' => K ((escX s h t (s t)).1 :: vs) s' h') .mk) := by
  simp only [awpResO, esc_tmp]; rfl
theorem resO_c {P : Program} (n a t : Nat) (r : List ResultVar) (s : Slots) (h : Heap) (K : List AV → Slots → Heap → Prop) : awpResO P (n + 1) (.cell a t :: r) s h K = atPlace s h (mvA a (s a)) (hid (fun cs => ofCells P t cs (hid (fun v => awpResO P n r s h (hid (fun vs s' h' => K (v :: vs) s' h') .mk)) .mk)) .mk) := by
  simp only [awpResO, mv_tmp]; rfl
theorem ownTup_own (i : Nat) (vs : List AV) (Q : AV → Prop) (m : Bool) (e sz : Nat) (xs : List AV) : ownTup i vs Q (.own m e sz xs) = Q (.otup i m e sz xs vs) := id rfl
theorem ownTup_v0 (y : AV) (vs : List AV) (Q : AV → Prop) (x : Value) : ownTup 0 (y :: vs) Q (.v x) = Q (.tup (.v x :: vs)) := id rfl
theorem ownTup_v1 (y z : AV) (vs : List AV) (Q : AV → Prop) (x : Value) : ownTup 1 (y :: z :: vs) Q (.v x) = Q (.tup (y :: .v x :: vs)) := id rfl
theorem awpRes_nil {P : Program} (s : Slots) (h : Heap) (K : List AV → Slots → Heap → Prop) : awpResults P [] s h K = K [] s h := id rfl
theorem awpRes_tmp {P : Program} (t : Nat) (r : List ResultVar) (s : Slots) (h : Heap) (K : List AV → Slots → Heap → Prop) : awpResults P (.tmp t :: r) s h K = awpResults P r (escX s h t (s t)).2.1 (escX s h t (s t)).2.2 (hid (fun vs s' h' => K ((escX s h t (s t)).1 :: vs) s' h') .mk) := by
  simp only [awpResults, esc_tmp]; rfl
theorem awpRes_cell {P : Program} (a t : Nat) (r : List ResultVar) (s : Slots) (h : Heap) (K : List AV → Slots → Heap → Prop) : awpResults P (.cell a t :: r) s h K = atPlace s h (mvA a (s a)) (hid (fun cs => ofCells P t cs (hid (fun v => awpResults P r s h (hid (fun vs s' h' => K (v :: vs) s' h') .mk)) .mk)) .mk) := by
  simp only [awpResults, mv_tmp]; rfl

end Go.Vm
