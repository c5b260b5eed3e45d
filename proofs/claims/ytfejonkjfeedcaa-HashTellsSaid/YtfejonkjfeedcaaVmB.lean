/- What each operation does with abstract values; the weakest precondition of a piece of code. -/
import Derived.Test.YtfejonkjfeedcaaVmA
set_option linter.unusedVariables false
set_option linter.unusedSimpArgs false
namespace Go.Vm
open Go.RowKit

def ev (s : Slots) : Operand → AV
  | .tmp t => s t
  | .const v => cst v
  | .func f => .clo f []
  | .global _ => .any

/-- What may be handed on as it stands: nothing private. -/
def val : AV → AV
  | .own .. | .box _ | .alias _ | .place .. | .elt .. => .any
  | x => x

/-- A copy into a temporary: what is private stays where it is. -/
def mv (s : Slots) (o : Operand) : AV :=
  match o with
  | .tmp t => match s t with
    | .own .. => .alias t
    | .box _ => .place t 0
    | x => x
  | o => val (ev s o)

def tkAl (s : Slots) (k : Nat) : AV → AV × Slots
  | .own m e sz xs => (.own m e sz xs, put s k .any)
  | _ => (.any, s)

/-- A variable takes a value: what is private moves. -/
def tk (s : Slots) (o : Operand) : AV × Slots :=
  match o with
  | .tmp t => match s t with
    | .own m e sz xs => (.own m e sz xs, set s t .any)
    | .alias k => tkAl s k (s k)
    | .box _ => (.any, s)
    | x => (x, s)
  | o => (val (ev s o), s)

def lookAl : AV → AV
  | .own _ _ sz xs => .sl sz xs
  | _ => .any

/-- A look at a value, for the moment. -/
def look (s : Slots) (x : AV) : AV :=
  match x with
  | .own _ _ sz xs => .sl sz xs
  | .alias k => lookAl (s k)
  | x => x

def frzAl (s : Slots) (k : Nat) : AV → AV × Slots
  | .own _ e sz xs => (.sl sz xs, set s k (.own false e sz xs))
  | _ => (.any, s)

/-- A value that is handed on for good: a slice of the call's own is not written any more. -/
def frz (s : Slots) (o : Operand) : AV × Slots :=
  match o with
  | .tmp t => match s t with
    | .own _ e sz xs => (.sl sz xs, set s t (.own false e sz xs))
    | .alias k => frzAl s k (s k)
    | x => (val x, s)
  | o => (val (ev s o), s)

def frzs (s : Slots) : List Operand → List AV × Slots
  | [] => ([], s)
  | o :: r => ((frz s o).1 :: (frzs (frz s o).2 r).1, (frzs (frz s o).2 r).2)

def intOp (op : BinOp) (k : IntKind) (a b : Int) : Option Value :=
  match op with
  | .add => some (.int k (k.wrap (a + b)))
  | .sub => some (.int k (k.wrap (a - b)))
  | .mul => some (.int k (k.wrap (a * b)))
  | .and => some (.int k (bits .and k a b))
  | .or => some (.int k (bits .or k a b))
  | .xor => some (.int k (bits .xor k a b))
  | .andNot => some (.int k (bits .andNot k a b))
  | .eql => some (.bool (a == b))
  | .neq => some (.bool (a != b))
  | .lss => some (.bool (decide (a < b)))
  | .leq => some (.bool (decide (a ≤ b)))
  | .gtr => some (.bool (decide (a > b)))
  | .geq => some (.bool (decide (a ≥ b)))
  | _ => none

/-- 'x op y' on plain values. -/
def awpBin (P : Program) (op : BinOp) (t : TypeId) (x y : AV) (K : Value → Prop) : Prop :=
  match x, y with
  | .v (.int k a), .v (.int k' b) =>
    match op with
    | .shl => 0 ≤ b ∧ K (.int k (k.wrap (a * 2 ^ min b.toNat k.bits)))
    | .shr => 0 ≤ b ∧ K (.int k (a.fdiv (2 ^ min b.toNat k.bits)))
    | .quo => k = k' ∧ b ≠ 0 ∧ K (.int k (k.wrap (a.tdiv b)))
    | .rem => k = k' ∧ b ≠ 0 ∧ K (.int k (a.tmod b))
    | op => k = k' ∧ match intOp op k a b with
      | some v => K v
      | none => False
  | .v (.string a), .v (.string b) =>
    match op with
    | .add => a.size + b.size ≤ maxLen ∧ K (.string (a ++ b))
    | .eql => K (.bool (a.toList == b.toList))
    | .neq => K (.bool (!(a.toList == b.toList)))
    | _ => False
  | .v (.bool a), .v (.bool b) =>
    P.underlying t = some .bool ∧ match op with
    | .eql => K (.bool (a == b))
    | .neq => K (.bool (!(a == b)))
    | _ => False
  | _, _ => False

def awpConv (P : Program) (src dst : TypeId) (x : AV) (K : AV → Prop) : Prop :=
  match x with
  | .v (.int _ n) => match P.underlying dst with
    | some (.int k) => P.underlying src ≠ none ∧ K (.v (.int k (k.wrap n)))
    | _ => False
  | _ => False

def asSl (sz : Nat) : AV → Option (List AV)
  | .sl sz' xs => if sz' = sz then some xs else none
  | .v (.slice none 0 0) => some []
  | _ => none

/-- The type of a slice's elements, and how many cells one has. -/
def elemSz (P : Program) (t : TypeId) : Option (TypeId × Nat) :=
  match P.underlying t with
  | some (.slice e) => match P.info? e with
    | some i => some (e, i.size)
    | none => none
  | _ => none

def aggT (P : Program) (t : TypeId) : Bool :=
  match P.underlying t with
  | some (.struct _) | some (.array _ _) => true
  | _ => false

def szT (P : Program) (t : TypeId) : Option Nat := (P.info? t).map (·.size)

/-- The value that lies in the first of some cells. -/
def ofCells (P : Program) (t : TypeId) (cs : List AV) (K : AV → Prop) : Prop :=
  match P.underlying t, szT P t with
  | some d, some n =>
    match d with
    | .struct _ | .array _ _ => n ≤ cs.length ∧ K (.agg (cs.take n))
    | _ => 0 < cs.length ∧ ∀ c, cs.head? = some c → K (val c)
  | _, _ => False

/-- Two ways, by a bool. -/
def condA (x : AV) (A B : Prop) : Prop :=
  match x with
  | .v (.bool t) => (t = true → A) ∧ (t = false → B)
  | _ => False

/-- An element's place. -/
def awpIdx (e : Option (TypeId × Nat)) (x i : AV) (K : AV → Prop) : Prop :=
  match e with
  | some (_, sz) => match asSl sz x, i with
    | some xs, .v (.int _ n) => (0 ≤ n ∧ n < xs.length) ∧ ∀ x, xs[n.toNat]? = some x → K (.eptr x.cells)
    | _, _ => False
  | none => False

/-- A part of a tuple. -/
def awpExt (t : AV) (i : Nat) (K : AV → Prop) : Prop :=
  match t with
  | .tup vs => i < vs.length ∧ ∀ v, vs[i]? = some v → K (val v)
  | _ => False

def boxA (o : Nat) (x : AV) (K : List AV → Prop) : Prop :=
  match x with
  | .box cs => K (cs.drop o)
  | _ => False

/-- What lies where a pointer points. -/
def atPlace (s : Slots) (x : AV) (K : List AV → Prop) : Prop :=
  match x with
  | .eptr cs => K cs
  | .place k o => boxA o (s k) K
  | _ => False

/-- A length. -/
def lenA (d : Option TypeDesc) (x : AV) (K : AV → Prop) : Prop :=
  match x with
  | .v (.string b) => d = some .string ∧ K (.v (.int .i64 b.size))
  | .v (.slice none 0 0) => d.any (fun d => d matches .slice _) = true ∧ K (.v (.int .i64 0))
  | .sl _ xs => d.any (fun d => d matches .slice _) = true ∧ K (.v (.int .i64 xs.length))
  | _ => False
def minA (x y : AV) (K : AV → Prop) : Prop :=
  match x, y with
  | .v (.int k x), .v (.int k' y) => k = k' ∧ K (.v (.int k (if y < x then y else x)))
  | _, _ => False
def maxA (x y : AV) (K : AV → Prop) : Prop :=
  match x, y with
  | .v (.int k x), .v (.int k' y) => k = k' ∧ K (.v (.int k (if x < y then y else x)))
  | _, _ => False

/-- What a cell may bear, wherever it lies. -/
def solid : AV → Bool
  | .v _ | .sl .. | .agg _ | .eptr _ | .ptr .. | .mp _ | .clo .. => true
  | _ => false

/-- A slice that is written out. -/
def awpBS (P : Program) (e : Option (TypeId × Nat)) (n : Nat) (ix : List Nat) (xs : List AV) (K : AV → Prop) : Prop :=
  match e with
  | some (e, sz) => ((P.info? e).any fun i => i.zero.isSome) = true ∧ 0 < sz ∧ n * sz ≤ 16777216 ∧ ix = List.range n ∧ xs.length = n ∧ (∀ x ∈ xs, solid x = true ∧ x.cells.length = sz) ∧ K (.own true e sz xs)
  | none => False

/-- The conversion of bytes that were written out. -/
def awpCv (P : Program) (src dst : TypeId) (p : AV × Slots) (x : AV) (s : Slots) (K : AV → Slots → Prop) : Prop :=
  match p with
  | (.own _ _ sz xs, s') => xs ≠ [] ∧ src = dst ∧ (match P.underlying dst with | some (.slice e) => P.underlying e = some (.int .u8) | _ => False) ∧ K (.sl sz xs) s'
  | _ => awpConv P src dst x fun v => K v s

def awpBuiltin (P : Program) (b : Builtin) (ts : Array TypeId) (os : List Operand) (s : Slots) (h : Heap) (K : AV → Slots → Heap → Prop) : Prop :=
  match b, os with
  | .len, [o] => lenA ((ts[0]?).bind P.underlying) (look s (ev s o)) fun v => K v s h
  | .max, [a, b] => maxA (ev s a) (ev s b) fun v => K v s h
  | .min, [a, b] => minA (ev s a) (ev s b) fun v => K v s h
  | _, _ => False

/-- What may be forgotten of an argument: all; that a nil slice is nil. -/
inductive Ga : AV → AV → Prop
  | refl (x : AV) : Ga x x
  | any (x : AV) : Ga x .any
  | nil (sz : Nat) : Ga (.v (.slice none 0 0)) (.sl sz [])

inductive GaL : List AV → List AV → Prop
  | nil : GaL [] []
  | cons {x y : AV} {xs ys : List AV} (h : Ga x y) (t : GaL xs ys) : GaL (x :: xs) (y :: ys)

def awpCall (T : FuncId → Option Spec) (f : FuncId) (os : List Operand) (s : Slots) (h : Heap) (K : AV → Slots → Heap → Prop) : Prop :=
  match T f with
  | some S => ∃ as, GaL (frzs s os).1 as ∧ ∃ Q0, S as h Q0 ∧ ∀ r h', Q0 r h' → K r (frzs s os).2 h'
  | none => False

def awpOp (P : Program) (T : FuncId → Option Spec) (o : Op) (s : Slots) (h : Heap) (K : AV → Slots → Heap → Prop) : Prop :=
  match o with
  | .move x => K (mv s x) s h
  | .assign x => K (tk s x).1 (tk s x).2 h
  | .pick c a b => condA (ev s c) (K (val (ev s a)) s h) (K (val (ev s b)) s h)
  | .binOp op t x y _ => awpBin P op t (look s (ev s x)) (look s (ev s y)) fun v => K (.v v) s h
  | .convert src dst x => awpCv P src dst (tk s x) (ev s x) s fun v s' => K v s' h
  | .buildSlice t n parts => awpBS P (elemSz P t) n (parts.toList.map (·.1)) (frzs s (parts.toList.map (·.2))).1 fun v => K v (frzs s (parts.toList.map (·.2))).2 h
  | .indexAddr t x i => awpIdx (elemSz P t) (ev s x) (ev s i) fun v => K v s h
  | .load t p => atPlace s (ev s p) fun cs => ofCells P t cs fun v => K v s h
  | .extract t i => awpExt (ev s t) i fun v => K v s h
  | .call { callee := .value (.func f), args, .. } => awpCall T f args.toList s h K
  | .call { callee := .builtin b, args, argTypes } => awpBuiltin P b argTypes args.toList s h K
  | _ => False

def putD (d : Option Tmp) (s : Slots) (x : AV) : Slots :=
  match d with
  | some d => put s d x
  | none => s

def guardA (want : Bool) (d : Nat) (x : AV) (s : Slots) (A B : Slots → Prop) : Prop :=
  match x with
  | .v (.bool b) => (b = want → A (set s d (.v (.bool want)))) ∧ (b = !want → B (set s d (.v (.bool (!want)))))
  | _ => False

/-- A guard: the slot that it asks is known behind it. -/
def awpGuard (want : Bool) (d : Option Tmp) (s : Slots) (A B : Slots → Prop) : Prop :=
  match d with
  | none => False
  | some d => guardA want d (s d) s A B

/-- An operation that is guarded is done where its guard says so; the guard's slot is then known. -/
def awpAt (P : Program) (T : FuncId → Option Spec) (ops : Array Oper) (o : Oper) (s : Slots) (h : Heap) (K : Slots → Heap → Prop) : Prop :=
  match o.guard with
  | none => awpOp P T o.op s h fun x s' h' => K (putD o.dst s' x) h'
  | some (j, want) => awpGuard want ((ops[j]?).bind (·.dst)) s
    (fun s => awpOp P T o.op s h fun x s' h' => K (putD o.dst s' x) h') fun s => K (putD o.dst s .any) h

def awpOps (P : Program) (T : FuncId → Option Spec) (ops : Array Oper) : List Oper → Slots → Heap → (Slots → Heap → Prop) → Prop
  | [], s, h, K => K s h
  | o :: r, s, h, K => awpAt P T ops o s h fun s' h' => awpOps P T ops r s' h' K

inductive Out where
  | normal | exit (id : Nat) | ret

def thenO (o : Out) (A B : Prop) : Prop :=
  match o with
  | .normal => A
  | _ => B
def blockO (id : Nat) : Out → Out
  | .exit id' => if id' = id then .normal else .exit id'
  | o => o

/-- What may be forgotten of a value: all; that a slice of the call's own was not published; that a nil slice is nil. -/
inductive Fg : AV → AV → Prop
  | refl (x : AV) : Fg x x
  | any (x : AV) : Fg x .any
  | nil (m : Bool) (e sz : Nat) (h : 0 < sz) : Fg (.v (.slice none 0 0)) (.own m e sz [])
  | shut (e sz : Nat) (xs : List AV) : Fg (.own true e sz xs) (.own false e sz xs)

def Le (s s1 : Slots) : Prop := ∀ i, Fg (s i) (s1 i)

def awp (P : Program) (T : FuncId → Option Spec) : Code → Slots → Heap → (Out → Slots → Heap → Prop) → Prop
  | .skip, s, h, Q => Q .normal s h
  | .region _ ops false, s, h, Q => awpOps P T ops ops.toList s h (Q .normal)
  | .region _ _ true, _, _, _ => False
  | .seq a b, s, h, Q => awp P T a s h fun o s' h' => thenO o (awp P T b s' h' Q) (Q o s' h')
  | .cond c a b, s, h, Q => condA (ev s c) (awp P T a s h Q) (awp P T b s h Q)
  | .block id b, s, h, Q => awp P T b s h fun o s' h' => Q (blockO id o) s' h'
  | .loop b, s, h, Q => ∃ (I : Nat → Slots → Heap → Prop) (n : Nat), (∃ s1, Le s s1 ∧ I n s1 h) ∧ ∀ n s h, I n s h → awp P T b s h fun o s' h' => thenO o (∃ m, m < n ∧ ∃ s1, Le s' s1 ∧ I m s1 h') (Q o s' h')
  | .exit id, s, h, Q => Q (.exit id) s h
  | .ret, s, h, Q => Q .ret s h
  | _, _, _, _ => False

/-- The slots of a call that begins. -/
def init (args : List AV) : Slots := fun i => (args[i]?).getD .any

/-- The results, where there are several: each handed on for good. -/
def awpResults (P : Program) : List ResultVar → Slots → (List AV → Slots → Prop) → Prop
  | [], s, K => K [] s
  | .tmp t :: r, s, K => awpResults P r (frz s (.tmp t)).2 fun vs s' => K ((frz s (.tmp t)).1 :: vs) s'
  | .cell a t :: r, s, K => atPlace s (mv s (.tmp a)) fun cs => ofCells P t cs fun v => awpResults P r s fun vs s' => K (v :: vs) s'

def res1 : AV → AV
  | .own m e sz xs => .own m e sz xs
  | x => val x

/-- What a call answers that ends with these slots. -/
def awpRet (P : Program) (rs : List ResultVar) (s : Slots) (h : Heap) (Q : AV → Heap → Prop) : Prop :=
  match rs with
  | [.tmp t] => Q (res1 (tk s (.tmp t)).1) h
  | [.cell a t] => atPlace s (mv s (.tmp a)) fun cs => ofCells P t cs fun v => Q v h
  | rs => awpResults P rs s fun vs _ => Q (.tup vs) h

def dstsOk (N : Nat) : Code → Bool
  | .region _ ops _ => ops.toList.all fun o => match o.dst with | some d => decide (d < N) | none => true
  | .seq a b | .cond _ a b => dstsOk N a && dstsOk N b
  | .block _ b | .loop b => dstsOk N b
  | _ => true

def endO (o : Out) (A : Prop) : Prop :=
  match o with
  | .exit _ => False
  | _ => A

/-- A whole function. -/
def awpFunc (P : Program) (T : FuncId → Option Spec) (fn : Func) (args : List AV) (h : Heap) (Q : AV → Heap → Prop) : Prop :=
  match fn.body with
  | some c => awp P T c (init args) h fun o s h' => endO o (awpRet P fn.results.toList s h' Q)
  | none => False

end Go.Vm
