/- Words for the use of the interpreter: the slots as they are read, bytes as a list, loops and calls by one line. -/
import Derived.Test.YtfejonkjfeedcaaVmH
set_option linter.unusedVariables false
set_option linter.unusedSimpArgs false
namespace Go.Vm
open Go.RowKit

@[simp] theorem put_app (s : Slots) (d : Nat) (x : AV) (i : Nat) : put s d x i = bif i == d then killed d x else killed d (s i) := by
  by_cases h : i = d
  · simp [put, h]
  · have h' : (i == d) = false := by simpa using h
    simp [put, h, h']
@[simp] theorem set_app (s : Slots) (d : Nat) (x : AV) (i : Nat) : set s d x i = bif i == d then x else s i := by
  by_cases h : i = d
  · simp [set, h]
  · have h' : (i == d) = false := by simpa using h
    simp [set, h, h']
@[simp] theorem killed_v (d : Nat) (x : Value) : killed d (.v x) = .v x := id rfl
@[simp] theorem killed_sl (d sz : Nat) (xs : List AV) : killed d (.sl sz xs) = .sl sz xs := id rfl
@[simp] theorem killed_own (d sz : Nat) (m : Bool) (e : TypeId) (xs : List AV) : killed d (.own m e sz xs) = .own m e sz xs := id rfl
@[simp] theorem killed_agg (d : Nat) (xs : List AV) : killed d (.agg xs) = .agg xs := id rfl
@[simp] theorem killed_tup (d : Nat) (xs : List AV) : killed d (.tup xs) = .tup xs := id rfl
@[simp] theorem killed_box (d : Nat) (xs : List AV) : killed d (.box xs) = .box xs := id rfl
@[simp] theorem killed_eptr (d : Nat) (xs : List AV) : killed d (.eptr xs) = .eptr xs := id rfl
@[simp] theorem killed_ptr (d i o : Nat) : killed d (.ptr i o) = .ptr i o := id rfl
@[simp] theorem killed_mp (d i : Nat) : killed d (.mp i) = .mp i := id rfl
@[simp] theorem killed_clo (d f : Nat) (xs : List AV) : killed d (.clo f xs) = .clo f xs := id rfl
@[simp] theorem killed_any (d : Nat) : killed d .any = .any := id rfl
@[simp] theorem killed_alias (d s : Nat) : killed d (.alias s) = bif s == d then .any else .alias s := by
  by_cases h : s = d
  · simp [killed, h]
  · have h' : (s == d) = false := by simpa using h
    simp [killed, h, h']
@[simp] theorem killed_place (d s o : Nat) : killed d (.place s o) = bif s == d then .any else .place s o := by
  by_cases h : s = d
  · simp [killed, h]
  · have h' : (s == d) = false := by simpa using h
    simp [killed, h, h']
@[simp] theorem killed_elt (d s sz i o : Nat) : killed d (.elt s sz i o) = bif s == d then .any else .elt s sz i o := by
  by_cases h : s = d
  · simp [killed, h]
  · have h' : (s == d) = false := by simpa using h
    simp [killed, h, h']

/-- Slots of which some are known. -/
def mk (l : List (Nat × AV)) : Slots := fun i => (l.lookup i).getD .any
@[simp] theorem mk_app (l : List (Nat × AV)) (i : Nat) : mk l i = (l.lookup i).getD .any := id rfl

theorem lookup_mem {l : List (Nat × AV)} {i : Nat} {x : AV} (h : l.lookup i = some x) : (i, x) ∈ l := by
  induction l with
  | nil => simp at h
  | cons p l ih =>
    obtain ⟨k, y⟩ := p
    simp only [List.lookup] at h
    split at h
    · rename_i he
      simp only [Option.some.injEq] at h
      have : i = k := by simpa using he
      subst this; subst h
      exact List.mem_cons_self ..
    · exact List.mem_cons_of_mem _ (ih h)

theorem le_mk {s : Slots} (l : List (Nat × AV)) (h : ∀ p ∈ l, Fg (s p.1) p.2) : Le s (mk l) := by
  intro i
  unfold mk
  cases hl : l.lookup i with
  | none => exact .any _
  | some x => exact h _ (lookup_mem hl)

@[simp] theorem fg_refl (x : AV) : Fg x x := .refl x

theorem call_one {T : FuncId → Option Spec} {f : FuncId} {os : List Operand} {s : Slots} {h : Heap} {K : AV → Slots → Heap → Prop} {S : Spec} (hT : T f = some S) (as : List AV)
    (hg : GaL (frzs s os).1 as) (hS : S as h fun r h' => K r (frzs s os).2 h') : awpCall T f os s h K := by
  unfold awpCall
  rw [hT]
  exact ⟨as, hg, _, hS, fun _ _ q => q⟩

theorem GaL.rfl : ∀ {l : List AV}, GaL l l
  | [] => .nil
  | x :: _ => .cons (.refl x) GaL.rfl

/-- Bytes as the interpreter has them. -/
def encB (b : UInt8) : AV := .v (.int .u8 b.toNat)
@[simp] theorem encB_cells (b : UInt8) : (encB b).cells = [encB b] := id rfl
@[simp] theorem val_encB (b : UInt8) : val (encB b) = encB b := id rfl

/-! What comes later is kept from 'simp' behind 'hid': its second argument's type hangs on the first, so no congruence law goes in. -/
structure Tg {α : Sort _} (K : α) : Type where mk ::
def hid {α : Sort _} (K : α) (_ : Tg K) : α := K
theorem hid1 {α : Type _} {β : Sort _} (K : α → β) (u : Tg K) (x : α) : hid K u x = K x := id rfl
theorem hid2 {α β : Type _} {γ : Sort _} (K : α → β → γ) (u : Tg K) (x : α) (y : β) : hid K u x y = K x y := id rfl
theorem hid3 {α β γ : Type _} {δ : Sort _} (K : α → β → γ → δ) (u : Tg K) (x : α) (y : β) (z : γ) : hid K u x y z = K x y z := id rfl
theorem hidP (A : Prop) (u : Tg A) : hid A u = A := id rfl
/-- What 'simp' is to leave as it stands. -/
def kept (A : Prop) (_ : Tg A) : Prop := A
theorem kept_intro {A : Prop} {u : Tg A} (h : A) : kept A u := h

theorem cells_v (x : Value) : (AV.v x).cells = [.v x] := id rfl
theorem cells_sl (sz : Nat) (xs : List AV) : (AV.sl sz xs).cells = [.sl sz xs] := id rfl
theorem cells_agg (xs : List AV) : (AV.agg xs).cells = xs := id rfl
theorem cells_ptr (i o : Nat) : (AV.ptr i o).cells = [.ptr i o] := id rfl
theorem cells_mp (i : Nat) : (AV.mp i).cells = [.mp i] := id rfl
theorem cells_clo (f : FuncId) (xs : List AV) : (AV.clo f xs).cells = [.clo f xs] := id rfl
theorem cells_any  : (AV.any).cells = [.any] := id rfl

/-- A loop: what holds at the head of each round, with a number that falls. -/
theorem awp_loop {P : Program} {T : FuncId → Option Spec} {b : Code} {s : Slots} {h : Heap} {Q : Out → Slots → Heap → Prop} (I : Nat → Slots → Heap → Prop) (n : Nat) (s1 : Slots)
    (h0 : Le s s1) (h1 : I n s1 h) (round : ∀ n s h, I n s h → awp P T b s h (hid (fun o s' h' => thenO o (hid (kept (∃ m, m < n ∧ ∃ s1, Le s' s1 ∧ I m s1 h') .mk) .mk) (hid (Q o s' h') .mk)) .mk)) : awp P T (.loop b) s h Q := ⟨I, n, ⟨s1, h0, h1⟩, round⟩


/-! Equations by which 'simp' runs the interpreter; 'congr' laws that keep it out of what comes later. -/
section eqs
variable {P : Program} {T : FuncId → Option Spec}

def mvA (t : Nat) : AV → AV
  | .own .. => .alias t
  | .box _ => .place t 0
  | x => x
theorem mv_tmp (s : Slots) (t : Nat) : mv s (.tmp t) = mvA t (s t) := by simp only [mv, mvA]; cases s t <;> rfl
theorem mv_const (s : Slots) (x : Value) : mv s (.const x) = val (cst x) := id rfl
theorem mv_func (s : Slots) (f : FuncId) : mv s (.func f) = .clo f [] := id rfl
def tkA (s : Slots) (t : Nat) : AV → AV × Slots
  | .own m e sz xs => (.own m e sz xs, set s t .any)
  | .alias k => tkAl s k (s k)
  | .box _ => (.any, s)
  | x => (x, s)
theorem tk_tmp (s : Slots) (t : Nat) : tk s (.tmp t) = tkA s t (s t) := by simp only [tk, tkA]; cases s t <;> rfl
theorem tk_const (s : Slots) (x : Value) : tk s (.const x) = (val (cst x), s) := id rfl
theorem tk_func (s : Slots) (f : FuncId) : tk s (.func f) = (.clo f [], s) := id rfl
def frzA (s : Slots) (t : Nat) : AV → AV × Slots
  | .own _ e sz xs => (.sl sz xs, set s t (.own false e sz xs))
  | .alias k => frzAl s k (s k)
  | x => (val x, s)
theorem frz_tmp (s : Slots) (t : Nat) : frz s (.tmp t) = frzA s t (s t) := by simp only [frz, frzA]; cases s t <;> rfl
theorem frz_const (s : Slots) (x : Value) : frz s (.const x) = (val (cst x), s) := id rfl
theorem frz_func (s : Slots) (f : FuncId) : frz s (.func f) = (.clo f [], s) := id rfl
theorem frzs_nil (s : Slots) : frzs s [] = ([], s) := id rfl
theorem frzs_cons (s : Slots) (o : Operand) (r : List Operand) : frzs s (o :: r) = ((frz s o).1 :: (frzs (frz s o).2 r).1, (frzs (frz s o).2 r).2) := id rfl
theorem ev_tmp (s : Slots) (t : Nat) : ev s (.tmp t) = s t := id rfl
theorem ev_const (s : Slots) (x : Value) : ev s (.const x) = cst x := id rfl
theorem ev_func (s : Slots) (f : FuncId) : ev s (.func f) = .clo f [] := id rfl
theorem mvA_own (t : Nat) (m : Bool) (e sz : Nat) (xs : List AV) : mvA t (.own m e sz xs) = .alias t := id rfl
theorem mvA_box (t : Nat) (xs : List AV) : mvA t (.box xs) = .place t 0 := id rfl
theorem mvA_alias (t k : Nat) : mvA t (.alias k) = .alias k := id rfl
theorem mvA_place (t k o : Nat) : mvA t (.place k o) = .place k o := id rfl
theorem mvA_elt (t k sz i o : Nat) : mvA t (.elt k sz i o) = .elt k sz i o := id rfl
theorem tkA_own (s : Slots) (t : Nat) (m : Bool) (e sz : Nat) (xs : List AV) : tkA s t (.own m e sz xs) = (.own m e sz xs, set s t .any) := id rfl
theorem tkA_alias (s : Slots) (t k : Nat) : tkA s t (.alias k) = tkAl s k (s k) := id rfl
theorem tkAl_own (s : Slots) (k : Nat) (m : Bool) (e sz : Nat) (xs : List AV) : tkAl s k (.own m e sz xs) = (.own m e sz xs, put s k .any) := id rfl
theorem frzA_own (s : Slots) (t : Nat) (m : Bool) (e sz : Nat) (xs : List AV) : frzA s t (.own m e sz xs) = (.sl sz xs, set s t (.own false e sz xs)) := id rfl
theorem frzA_alias (s : Slots) (t k : Nat) : frzA s t (.alias k) = frzAl s k (s k) := id rfl
theorem frzAl_own (s : Slots) (k : Nat) (m : Bool) (e sz : Nat) (xs : List AV) : frzAl s k (.own m e sz xs) = (.sl sz xs, set s k (.own false e sz xs)) := id rfl
theorem look_alias (s : Slots) (k : Nat) : look s (.alias k) = lookAl (s k) := id rfl
theorem lookAl_own (m : Bool) (e sz : Nat) (xs : List AV) : lookAl (.own m e sz xs) = .sl sz xs := id rfl
theorem look_own (s : Slots) (m : Bool) (e sz : Nat) (xs : List AV) : look s (.own m e sz xs) = .sl sz xs := id rfl
theorem cst_int (k : IntKind) (n : Int) : cst (.int k n) = .v (.int k n) := id rfl
theorem cst_bool (b : Bool) : cst (.bool b) = .v (.bool b) := id rfl
theorem cst_string (b : ByteArray) : cst (.string b) = .v (.string b) := id rfl
theorem cst_nil : cst (.slice none 0 0) = .v (.slice none 0 0) := id rfl
theorem cst_nilp : cst (.pointer none) = .v (.pointer none) := id rfl
theorem cst_nilm : cst (.map none) = .v (.map none) := id rfl
theorem mvA_v (t : Nat) (x : Value) : mvA t (.v x) = (.v x) := id rfl
theorem tkA_v (s : Slots) (t : Nat) (x : Value) : tkA s t (.v x) = ((.v x), s) := id rfl
theorem frzA_v (s : Slots) (t : Nat) (x : Value) : frzA s t (.v x) = ((.v x), s) := id rfl
theorem look_v (s : Slots) (x : Value) : look s (.v x) = (.v x) := id rfl
@[simp] theorem val_v (x : Value) : val (.v x) = (.v x) := id rfl
theorem res1_v (x : Value) : res1 (.v x) = (.v x) := id rfl
theorem mvA_sl (t : Nat) (sz : Nat) (xs : List AV) : mvA t (.sl sz xs) = (.sl sz xs) := id rfl
theorem tkA_sl (s : Slots) (t : Nat) (sz : Nat) (xs : List AV) : tkA s t (.sl sz xs) = ((.sl sz xs), s) := id rfl
theorem frzA_sl (s : Slots) (t : Nat) (sz : Nat) (xs : List AV) : frzA s t (.sl sz xs) = ((.sl sz xs), s) := id rfl
theorem look_sl (s : Slots) (sz : Nat) (xs : List AV) : look s (.sl sz xs) = (.sl sz xs) := id rfl
@[simp] theorem val_sl (sz : Nat) (xs : List AV) : val (.sl sz xs) = (.sl sz xs) := id rfl
theorem res1_sl (sz : Nat) (xs : List AV) : res1 (.sl sz xs) = (.sl sz xs) := id rfl
theorem mvA_agg (t : Nat) (xs : List AV) : mvA t (.agg xs) = (.agg xs) := id rfl
theorem tkA_agg (s : Slots) (t : Nat) (xs : List AV) : tkA s t (.agg xs) = ((.agg xs), s) := id rfl
theorem frzA_agg (s : Slots) (t : Nat) (xs : List AV) : frzA s t (.agg xs) = ((.agg xs), s) := id rfl
theorem look_agg (s : Slots) (xs : List AV) : look s (.agg xs) = (.agg xs) := id rfl
@[simp] theorem val_agg (xs : List AV) : val (.agg xs) = (.agg xs) := id rfl
theorem res1_agg (xs : List AV) : res1 (.agg xs) = (.agg xs) := id rfl
theorem mvA_tup (t : Nat) (xs : List AV) : mvA t (.tup xs) = (.tup xs) := id rfl
theorem tkA_tup (s : Slots) (t : Nat) (xs : List AV) : tkA s t (.tup xs) = ((.tup xs), s) := id rfl
theorem frzA_tup (s : Slots) (t : Nat) (xs : List AV) : frzA s t (.tup xs) = ((.tup xs), s) := id rfl
theorem look_tup (s : Slots) (xs : List AV) : look s (.tup xs) = (.tup xs) := id rfl
@[simp] theorem val_tup (xs : List AV) : val (.tup xs) = (.tup xs) := id rfl
theorem res1_tup (xs : List AV) : res1 (.tup xs) = (.tup xs) := id rfl
theorem mvA_eptr (t : Nat) (xs : List AV) : mvA t (.eptr xs) = (.eptr xs) := id rfl
theorem tkA_eptr (s : Slots) (t : Nat) (xs : List AV) : tkA s t (.eptr xs) = ((.eptr xs), s) := id rfl
theorem frzA_eptr (s : Slots) (t : Nat) (xs : List AV) : frzA s t (.eptr xs) = ((.eptr xs), s) := id rfl
theorem look_eptr (s : Slots) (xs : List AV) : look s (.eptr xs) = (.eptr xs) := id rfl
@[simp] theorem val_eptr (xs : List AV) : val (.eptr xs) = (.eptr xs) := id rfl
theorem res1_eptr (xs : List AV) : res1 (.eptr xs) = (.eptr xs) := id rfl
theorem mvA_ptr (t : Nat) (i o : Nat) : mvA t (.ptr i o) = (.ptr i o) := id rfl
theorem tkA_ptr (s : Slots) (t : Nat) (i o : Nat) : tkA s t (.ptr i o) = ((.ptr i o), s) := id rfl
theorem frzA_ptr (s : Slots) (t : Nat) (i o : Nat) : frzA s t (.ptr i o) = ((.ptr i o), s) := id rfl
theorem look_ptr (s : Slots) (i o : Nat) : look s (.ptr i o) = (.ptr i o) := id rfl
@[simp] theorem val_ptr (i o : Nat) : val (.ptr i o) = (.ptr i o) := id rfl
theorem res1_ptr (i o : Nat) : res1 (.ptr i o) = (.ptr i o) := id rfl
theorem mvA_mp (t : Nat) (i : Nat) : mvA t (.mp i) = (.mp i) := id rfl
theorem tkA_mp (s : Slots) (t : Nat) (i : Nat) : tkA s t (.mp i) = ((.mp i), s) := id rfl
theorem frzA_mp (s : Slots) (t : Nat) (i : Nat) : frzA s t (.mp i) = ((.mp i), s) := id rfl
theorem look_mp (s : Slots) (i : Nat) : look s (.mp i) = (.mp i) := id rfl
@[simp] theorem val_mp (i : Nat) : val (.mp i) = (.mp i) := id rfl
theorem res1_mp (i : Nat) : res1 (.mp i) = (.mp i) := id rfl
theorem mvA_clo (t : Nat) (f : FuncId) (xs : List AV) : mvA t (.clo f xs) = (.clo f xs) := id rfl
theorem tkA_clo (s : Slots) (t : Nat) (f : FuncId) (xs : List AV) : tkA s t (.clo f xs) = ((.clo f xs), s) := id rfl
theorem frzA_clo (s : Slots) (t : Nat) (f : FuncId) (xs : List AV) : frzA s t (.clo f xs) = ((.clo f xs), s) := id rfl
theorem look_clo (s : Slots) (f : FuncId) (xs : List AV) : look s (.clo f xs) = (.clo f xs) := id rfl
@[simp] theorem val_clo (f : FuncId) (xs : List AV) : val (.clo f xs) = (.clo f xs) := id rfl
theorem res1_clo (f : FuncId) (xs : List AV) : res1 (.clo f xs) = (.clo f xs) := id rfl
theorem mvA_any (t : Nat)  : mvA t .any = .any := id rfl
theorem tkA_any (s : Slots) (t : Nat)  : tkA s t .any = (.any, s) := id rfl
theorem frzA_any (s : Slots) (t : Nat)  : frzA s t .any = (.any, s) := id rfl
theorem look_any (s : Slots)  : look s .any = .any := id rfl
@[simp] theorem val_any  : val .any = .any := id rfl
theorem res1_any  : res1 .any = .any := id rfl
theorem res1_own (m : Bool) (e sz : Nat) (xs : List AV) : res1 (.own m e sz xs) = .own m e sz xs := id rfl

theorem awp_skip (s : Slots) (h : Heap) (Q : Out → Slots → Heap → Prop) : awp P T .skip s h Q = Q .normal s h := id rfl
theorem awp_region (i : Nat) (l : List Oper) (s : Slots) (h : Heap) (Q : Out → Slots → Heap → Prop) : awp P T (.region i (List.toArray l) false) s h Q = awpOps P T (List.toArray l) l s h (hid (Q .normal) .mk) := id rfl
theorem awp_seq (a b : Code) (s : Slots) (h : Heap) (Q : Out → Slots → Heap → Prop) : awp P T (.seq a b) s h Q = awp P T a s h (hid (fun o s' h' => thenO o (hid (awp P T b s' h' Q) .mk) (hid (Q o s' h') .mk)) .mk) := id rfl
theorem awp_cond (c : Operand) (a b : Code) (s : Slots) (h : Heap) (Q : Out → Slots → Heap → Prop) : awp P T (.cond c a b) s h Q = condA (ev s c) (hid (awp P T a s h Q) .mk) (hid (awp P T b s h Q) .mk) := id rfl
theorem awp_block (i : Nat) (b : Code) (s : Slots) (h : Heap) (Q : Out → Slots → Heap → Prop) : awp P T (.block i b) s h Q = awp P T b s h (hid (fun o s' h' => Q (blockO i o) s' h') .mk) := id rfl
theorem awp_exit (i : Nat) (s : Slots) (h : Heap) (Q : Out → Slots → Heap → Prop) : awp P T (.exit i) s h Q = Q (.exit i) s h := id rfl
theorem awp_ret (s : Slots) (h : Heap) (Q : Out → Slots → Heap → Prop) : awp P T .ret s h Q = Q .ret s h := id rfl
theorem thenO_n (A B : Prop) (u : Tg A) : thenO .normal (hid A u) B = A := id rfl
theorem thenO_e (i : Nat) (A B : Prop) (u : Tg B) : thenO (.exit i) A (hid B u) = B := id rfl
theorem thenO_r (A B : Prop) (u : Tg B) : thenO .ret A (hid B u) = B := id rfl
theorem blockO_n (i : Nat) : blockO i .normal = .normal := id rfl
theorem blockO_r (i : Nat) : blockO i .ret = .ret := id rfl
theorem blockO_e (i j : Nat) : blockO i (.exit j) = bif j == i then .normal else .exit j := by
  by_cases h : j = i
  · simp [blockO, h]
  · have h' : (j == i) = false := by simpa using h
    simp [blockO, h, h']
theorem endO_n (A : Prop) (u : Tg A) : endO .normal (hid A u) = A := id rfl
theorem endO_r (A : Prop) (u : Tg A) : endO .ret (hid A u) = A := id rfl
theorem awpOps_nil (ops : Array Oper) (s : Slots) (h : Heap) (K : Slots → Heap → Prop) : awpOps P T ops [] s h K = K s h := id rfl
theorem awpOps_cons (ops : Array Oper) (o : Oper) (r : List Oper) (s : Slots) (h : Heap) (K : Slots → Heap → Prop) : awpOps P T ops (o :: r) s h K = awpAt P T ops o s h (hid (fun s' h' => awpOps P T ops r s' h' K) .mk) := id rfl
theorem awpAt_none (ops : Array Oper) (d : Option Tmp) (op : Op) (ty : TypeId) (pos : String) (af : Array Edge) (s : Slots) (h : Heap) (K : Slots → Heap → Prop) :
    awpAt P T ops ⟨d, op, ty, pos, af, none⟩ s h K = awpOp P T op s h (hid (fun x s' h' => K (putD d s' x) h') .mk) := id rfl
theorem awpAt_some (ops : Array Oper) (d : Option Tmp) (op : Op) (ty : TypeId) (pos : String) (af : Array Edge) (j : Nat) (want : Bool) (s : Slots) (h : Heap) (K : Slots → Heap → Prop) :
    awpAt P T ops ⟨d, op, ty, pos, af, some (j, want)⟩ s h K = awpGuard want ((ops[j]?).bind (·.dst)) s (hid (fun s => awpOp P T op s h (hid (fun x s' h' => K (putD d s' x) h') .mk)) .mk) (hid (fun s => K (putD d s .any) h) .mk) := id rfl
theorem awpGuard_some (want : Bool) (d : Nat) (s : Slots) (A B : Slots → Prop) : awpGuard want (some d) s A B = guardA want d (s d) s A B := id rfl
theorem guardA_tt (d : Nat) (s : Slots) (A B : Slots → Prop) : guardA true d (.v (.bool true)) s A B = A (set s d (.v (.bool true))) := by simp [guardA]
theorem guardA_tf (d : Nat) (s : Slots) (A B : Slots → Prop) : guardA true d (.v (.bool false)) s A B = B (set s d (.v (.bool false))) := by simp [guardA]
theorem guardA_ft (d : Nat) (s : Slots) (A B : Slots → Prop) : guardA false d (.v (.bool true)) s A B = B (set s d (.v (.bool true))) := by simp [guardA]
theorem guardA_ff (d : Nat) (s : Slots) (A B : Slots → Prop) : guardA false d (.v (.bool false)) s A B = A (set s d (.v (.bool false))) := by simp [guardA]
theorem guard_intro {want b : Bool} {d : Nat} {s : Slots} {A B : Slots → Prop} (h1 : b = want → A (set s d (.v (.bool want)))) (h2 : b = !want → B (set s d (.v (.bool (!want))))) {u : Tg A} {u' : Tg B} : guardA want d (.v (.bool b)) s (hid A u) (hid B u') := ⟨h1, h2⟩
theorem putD_some (d : Nat) (s : Slots) (x : AV) : putD (some d) s x = put s d x := id rfl
theorem putD_none (s : Slots) (x : AV) : putD none s x = s := id rfl
theorem condA_t (A B : Prop) (u : Tg A) : condA (.v (.bool true)) (hid A u) B = A := by simp [condA, hid]
theorem condA_f (A B : Prop) (u : Tg B) : condA (.v (.bool false)) A (hid B u) = B := by simp [condA, hid]
theorem cond_intro {b : Bool} {A B : Prop} {u : Tg A} {u' : Tg B} (h1 : b = true → A) (h2 : b = false → B) : condA (.v (.bool b)) (hid A u) (hid B u') := ⟨h1, h2⟩

variable (s : Slots) (h : Heap) (K : AV → Slots → Heap → Prop)
theorem awpOp_move (x : Operand) : awpOp P T (.move x) s h K = K (mv s x) s h := id rfl
theorem awpOp_assign (x : Operand) : awpOp P T (.assign x) s h K = K (tk s x).1 (tk s x).2 h := id rfl
theorem awpOp_pick (c a b : Operand) : awpOp P T (.pick c a b) s h K = condA (ev s c) (hid (K (val (ev s a)) s h) .mk) (hid (K (val (ev s b)) s h) .mk) := id rfl
theorem awpOp_bin (op : BinOp) (t t' : TypeId) (x y : Operand) : awpOp P T (.binOp op t x y t') s h K = awpBin P op t (look s (ev s x)) (look s (ev s y)) (hid (fun v => K (.v v) s h) .mk) := id rfl
theorem awpOp_conv (src dst : TypeId) (x : Operand) : awpOp P T (.convert src dst x) s h K = awpCv P src dst (tk s x) (ev s x) s (hid (fun v s' => K v s' h) .mk) := id rfl
theorem cv_v (src dst : TypeId) (v : Value) (s' : Slots) (x : AV) (K : AV → Slots → Prop) : awpCv P src dst (.v v, s') x s K = awpConv P src dst x (hid (fun v => K v s) .mk) := id rfl
theorem cv_sl (src dst : TypeId) (sz : Nat) (xs : List AV) (s' : Slots) (x : AV) (K : AV → Slots → Prop) : awpCv P src dst (.sl sz xs, s') x s K = awpConv P src dst x (hid (fun v => K v s) .mk) := id rfl
theorem cv_bytes {t e : TypeId} (hu : P.underlying t = some (.slice e)) (he : P.underlying e = some (.int .u8)) (m : Bool) (e' sz : Nat) (y : AV) (ys : List AV) (s' : Slots) (x : AV) (K : AV → Slots → Prop) :
    awpCv P t t (.own m e' sz (y :: ys), s') x s K = K (.sl sz (y :: ys)) s' := by simp [awpCv, hu, he]
theorem awpOp_bs (t : TypeId) (n : Nat) (l : List (Nat × Operand)) : awpOp P T (.buildSlice t n (List.toArray l)) s h K = awpBS P (elemSz P t) n (l.map (·.1)) (frzs s (l.map (·.2))).1 (hid (fun v => K v (frzs s (l.map (·.2))).2 h) .mk) := id rfl
theorem bs_intro {e sz : Nat} {n : Nat} {ix : List Nat} {xs : List AV} {K : AV → Prop} (hz : ((P.info? e).any fun i => i.zero.isSome) = true) (h1 : 0 < sz) (h2 : n * sz ≤ 16777216) (h3 : ix = List.range n) (h4 : xs.length = n)
    (h5 : ∀ x ∈ xs, solid x = true ∧ x.cells.length = sz) (hK : K (.own true e sz xs)) : awpBS P (some (e, sz)) n ix xs K := ⟨hz, h1, h2, h3, h4, h5, hK⟩
theorem shl_intro {t : TypeId} {k k' : IntKind} {a b : Int} {KV : Value → Prop} (hb : 0 ≤ b) (hK : KV (.int k (k.wrap (a * 2 ^ min b.toNat k.bits)))) : awpBin P .shl t (.v (.int k a)) (.v (.int k' b)) KV := ⟨hb, hK⟩
theorem shr_intro {t : TypeId} {k k' : IntKind} {a b : Int} {KV : Value → Prop} (hb : 0 ≤ b) (hK : KV (.int k (a.fdiv (2 ^ min b.toNat k.bits)))) : awpBin P .shr t (.v (.int k a)) (.v (.int k' b)) KV := ⟨hb, hK⟩
theorem quo_intro {t : TypeId} {k : IntKind} {a b : Int} {KV : Value → Prop} (hb : b ≠ 0) (hK : KV (.int k (k.wrap (a.tdiv b)))) : awpBin P .quo t (.v (.int k a)) (.v (.int k b)) KV := ⟨rfl, hb, hK⟩
theorem rem_intro {t : TypeId} {k : IntKind} {a b : Int} {KV : Value → Prop} (hb : b ≠ 0) (hK : KV (.int k (a.tmod b))) : awpBin P .rem t (.v (.int k a)) (.v (.int k b)) KV := ⟨rfl, hb, hK⟩
theorem awpOp_idx (t : TypeId) (x i : Operand) : awpOp P T (.indexAddr t x i) s h K = awpIdx (elemSz P t) (ev s x) (ev s i) (hid (fun v => K v s h) .mk) := id rfl
theorem awpOp_load (t : TypeId) (p : Operand) : awpOp P T (.load t p) s h K = atPlace s (ev s p) (hid (fun cs => ofCells P t cs (hid (fun v => K v s h) .mk)) .mk) := id rfl
theorem awpOp_ext (t : Operand) (i : Nat) : awpOp P T (.extract t i) s h K = awpExt (ev s t) i (hid (fun v => K v s h) .mk) := id rfl
theorem awpOp_call (f : FuncId) (l : List Operand) (ts : Array TypeId) : awpOp P T (.call { callee := .value (.func f), args := List.toArray l, argTypes := ts }) s h K = awpCall T f l s h K := id rfl
theorem awpOp_builtin (b : Builtin) (l : List Operand) (ts : Array TypeId) : awpOp P T (.call { callee := .builtin b, args := List.toArray l, argTypes := ts }) s h K = awpBuiltin P b ts l s h K := id rfl

theorem awpB_len (ts : Array TypeId) (o : Operand) : awpBuiltin P .len ts [o] s h K = lenA ((ts[0]?).bind P.underlying) (look s (ev s o)) (hid (fun v => K v s h) .mk) := id rfl
theorem lenA_sl (e sz : Nat) (xs : List AV) (K : AV → Prop) : lenA (some (.slice e)) (.sl sz xs) K = K (.v (.int .i64 xs.length)) := by simp [lenA]
theorem lenA_nil (e : Nat) (K : AV → Prop) : lenA (some (.slice e)) (.v (.slice none 0 0)) K = K (.v (.int .i64 0)) := by simp [lenA]
theorem lenA_str (b : ByteArray) (K : AV → Prop) : lenA (some .string) (.v (.string b)) K = K (.v (.int .i64 b.size)) := by simp [lenA]
theorem awpB_min (ts : Array TypeId) (a b : Operand) : awpBuiltin P .min ts [a, b] s h K = minA (ev s a) (ev s b) (hid (fun v => K v s h) .mk) := id rfl
theorem awpB_max (ts : Array TypeId) (a b : Operand) : awpBuiltin P .max ts [a, b] s h K = maxA (ev s a) (ev s b) (hid (fun v => K v s h) .mk) := id rfl
theorem minA_int (k : IntKind) (x y : Int) (K : AV → Prop) : minA (.v (.int k x)) (.v (.int k y)) K = K (.v (.int k (if y < x then y else x))) := by simp [minA]
theorem maxA_int (k : IntKind) (x y : Int) (K : AV → Prop) : maxA (.v (.int k x)) (.v (.int k y)) K = K (.v (.int k (if x < y then y else x))) := by simp [maxA]

variable (t : TypeId) (k : IntKind) (a b : Int) (KV : Value → Prop)
theorem bin_add : awpBin P .add t (.v (.int k a)) (.v (.int k b)) KV = KV (.int k (k.wrap (a + b))) := by simp [awpBin, intOp]
theorem bin_sub : awpBin P .sub t (.v (.int k a)) (.v (.int k b)) KV = KV (.int k (k.wrap (a - b))) := by simp [awpBin, intOp]
theorem bin_mul : awpBin P .mul t (.v (.int k a)) (.v (.int k b)) KV = KV (.int k (k.wrap (a * b))) := by simp [awpBin, intOp]
theorem bin_and : awpBin P .and t (.v (.int k a)) (.v (.int k b)) KV = KV (.int k (bits .and k a b)) := by simp [awpBin, intOp]
theorem bin_or : awpBin P .or t (.v (.int k a)) (.v (.int k b)) KV = KV (.int k (bits .or k a b)) := by simp [awpBin, intOp]
theorem bin_xor : awpBin P .xor t (.v (.int k a)) (.v (.int k b)) KV = KV (.int k (bits .xor k a b)) := by simp [awpBin, intOp]
theorem bin_eql : awpBin P .eql t (.v (.int k a)) (.v (.int k b)) KV = KV (.bool (a == b)) := by simp [awpBin, intOp]
theorem bin_neq : awpBin P .neq t (.v (.int k a)) (.v (.int k b)) KV = KV (.bool (a != b)) := by simp [awpBin, intOp]
theorem bin_lss : awpBin P .lss t (.v (.int k a)) (.v (.int k b)) KV = KV (.bool (decide (a < b))) := by simp [awpBin, intOp]
theorem bin_leq : awpBin P .leq t (.v (.int k a)) (.v (.int k b)) KV = KV (.bool (decide (a ≤ b))) := by simp [awpBin, intOp]
theorem bin_gtr : awpBin P .gtr t (.v (.int k a)) (.v (.int k b)) KV = KV (.bool (decide (a > b))) := by simp [awpBin, intOp]
theorem bin_geq : awpBin P .geq t (.v (.int k a)) (.v (.int k b)) KV = KV (.bool (decide (a ≥ b))) := by simp [awpBin, intOp]
theorem conv_int {src dst : TypeId} {k k' : IntKind} {d : TypeDesc} (hs : P.underlying src = some d) (hd : P.underlying dst = some (.int k')) (n : Int) (K : AV → Prop) :
    awpConv P src dst (.v (.int k n)) K = K (.v (.int k' (k'.wrap n))) := by simp [awpConv, hs, hd]
theorem place_eptr (cs : List AV) (K : List AV → Prop) : atPlace s (.eptr cs) K = K cs := id rfl
theorem place_place (k o : Nat) (K : List AV → Prop) : atPlace s (.place k o) K = boxA o (s k) K := id rfl
theorem boxA_box (o : Nat) (cs : List AV) (K : List AV → Prop) : boxA o (.box cs) K = K (cs.drop o) := id rfl
theorem idx_intro {e sz : Nat} {xs : List AV} {x : AV} {k : IntKind} {n : Int} {K : AV → Prop} (hx : asSl sz x = some xs) (hb : 0 ≤ n ∧ n < xs.length) (hK : ∀ x, xs[n.toNat]? = some x → K (.eptr x.cells)) :
    awpIdx (some (e, sz)) x (.v (.int k n)) K := by
  simp only [awpIdx, hx]; exact ⟨hb, hK⟩
end eqs

theorem awpFunc_some {P : Program} {T : FuncId → Option Spec} {fn : Func} {c : Code} (hb : fn.body = some c) (args : List AV) (h : Heap) (Q : AV → Heap → Prop) :
    awpFunc P T fn args h Q = awp P T c (init args) h (hid (fun o s h' => endO o (hid (awpRet P fn.results.toList s h' Q) .mk)) .mk) := by
  unfold awpFunc; rw [hb]; rfl
theorem awpRet_tmp {P : Program} (t : Nat) (s : Slots) (h : Heap) (Q : AV → Heap → Prop) : awpRet P [.tmp t] s h Q = Q (res1 (tkA s t (s t)).1) h := by simp only [awpRet, tk_tmp]
theorem awpRet_cell {P : Program} (a t : Nat) (s : Slots) (h : Heap) (Q : AV → Heap → Prop) : awpRet P [.cell a t] s h Q = atPlace s (mvA a (s a)) (hid (fun cs => ofCells P t cs (hid (fun v => Q v h) .mk)) .mk) := by
  simp only [awpRet, mv_tmp]; rfl
theorem awpRet_many {P : Program} (a b : ResultVar) (r : List ResultVar) (s : Slots) (h : Heap) (Q : AV → Heap → Prop) : awpRet P (a :: b :: r) s h Q = awpResults P (a :: b :: r) s (hid (fun vs _ => Q (.tup vs) h) .mk) := by cases a <;> rfl
theorem awpRet_zero {P : Program} (s : Slots) (h : Heap) (Q : AV → Heap → Prop) : awpRet P [] s h Q = Q (.tup []) h := id rfl
theorem awpRes_nil {P : Program} (s : Slots) (K : List AV → Slots → Prop) : awpResults P [] s K = K [] s := id rfl
theorem awpRes_tmp {P : Program} (t : Nat) (r : List ResultVar) (s : Slots) (K : List AV → Slots → Prop) : awpResults P (.tmp t :: r) s K = awpResults P r (frzA s t (s t)).2 (hid (fun vs s' => K ((frzA s t (s t)).1 :: vs) s') .mk) := by
  simp only [awpResults, frz_tmp]; rfl
theorem awpRes_cell {P : Program} (a t : Nat) (r : List ResultVar) (s : Slots) (K : List AV → Slots → Prop) : awpResults P (.cell a t :: r) s K = atPlace s (mvA a (s a)) (hid (fun cs => ofCells P t cs (hid (fun v => awpResults P r s (hid (fun vs s' => K (v :: vs) s') .mk)) .mk)) .mk) := by
  simp only [awpResults, mv_tmp]; rfl

end Go.Vm
