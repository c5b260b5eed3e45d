/- What each operation does with abstract values; the weakest precondition of a piece of code. -/
import Derived.Test.YthfbpdipilajoaaGreatDoorVmA
import Derived.MapKept
set_option linter.unusedVariables false
set_option linter.unusedSimpArgs false
namespace Go.Vm
open Go.RowKit

def ev (s : Slots) : Operand → AV
  | .tmp t => s t
  | .const v => cst v
  | .func f => .clo f []
  | .global i => match globTab i with
    | some cs => .eptr cs
    | none => .any

/-- What may be handed on as it stands: nothing private. -/
def val : AV → AV
  | .own .. | .box _ | .iter .. | .alias _ | .place .. | .elt .. | .otup .. | .part .. => .any
  | x => x

/-- A copy into a temporary: what is private stays where it is. -/
def mv (s : Slots) (o : Operand) : AV :=
  match o with
  | .tmp t => match s t with
    | .own .. => .alias t
    | .otup .. => .alias t
    | .box _ => .place t 0
    | .iter .. => .any
    | x => x
  | o => val (ev s o)

def tkAl (s : Slots) (k : Nat) : AV → AV × Slots
  | .own m e sz xs => (.own m e sz xs, put s k .any)
  | _ => (.any, s)

def tkPart (s : Slots) (k i : Nat) : AV → AV × Slots
  | .otup i' m e sz xs rest => if i' = i then (.own m e sz xs, put s k (.tup rest)) else (.any, s)
  | _ => (.any, s)

/-- A variable takes a value: what is private moves. -/
def tk (s : Slots) (o : Operand) : AV × Slots :=
  match o with
  | .tmp t => match s t with
    | .own m e sz xs => (.own m e sz xs, set s t .any)
    | .alias k => tkAl s k (s k)
    | .part k i => tkPart s k i (s k)
    | .otup .. => (.any, s)
    | .box _ => (.place t 0, s)
    | .iter .. => (.any, s)
    | x => (x, s)
  | o => (val (ev s o), s)

def lookAl : AV → AV
  | .own _ _ sz xs => .sl sz xs
  | _ => .any

/-- A look at a value, for the moment. -/
def look (s : Slots) (x : AV) : AV :=
  match x with
  | .own _ _ sz xs => .sl sz xs
  | .alias k => lookAl (s k)
  | x => x

def frzAl (s : Slots) (k : Nat) : AV → AV × Slots
  | .own _ e sz xs => (.sl sz xs, set s k (.own false e sz xs))
  | _ => (.any, s)

/-- A value that is handed on for good: a slice of the call's own is not written any more. -/
def frz (s : Slots) (o : Operand) : AV × Slots :=
  match o with
  | .tmp t => match s t with
    | .own _ e sz xs => (.sl sz xs, set s t (.own false e sz xs))
    | .alias k => frzAl s k (s k)
    | x => (val x, s)
  | o => (val (ev s o), s)

/-- What is handed to others: a variable of the call's own becomes an object. -/
def escP (s : Slots) (h : Heap) (k o : Nat) (p : AV × Slots) : AV → AV × Slots × Heap
  | .box cs => (.ptr h.length o, set s k (.ptr h.length 0), h ++ [.cells cs])
  | .ptr i o0 => (.ptr i (o0 + o), s, h)
  | _ => (p.1, p.2, h)
def escA (s : Slots) (h : Heap) (t : Nat) (p : AV × Slots) : AV → AV × Slots × Heap
  | .box cs => (.ptr h.length 0, set s t (.ptr h.length 0), h ++ [.cells cs])
  | .place k o => escP s h k o p (s k)
  | _ => (p.1, p.2, h)

def esc (s : Slots) (h : Heap) (o : Operand) : AV × Slots × Heap :=
  match o with
  | .tmp t => escA s h t (frz s o) (s t)
  | _ => ((frz s o).1, (frz s o).2, h)

def escs (s : Slots) (h : Heap) : List Operand → List AV × Slots × Heap
  | [] => ([], s, h)
  | o :: r => ((esc s h o).1 :: (escs (esc s h o).2.1 (esc s h o).2.2 r).1, (escs (esc s h o).2.1 (esc s h o).2.2 r).2)

def frzs (s : Slots) : List Operand → List AV × Slots
  | [] => ([], s)
  | o :: r => ((frz s o).1 :: (frzs (frz s o).2 r).1, (frzs (frz s o).2 r).2)

def intOp (op : BinOp) (k : IntKind) (a b : Int) : Option Value :=
  match op with
  | .add => some (.int k (k.wrap (a + b)))
  | .sub => some (.int k (k.wrap (a - b)))
  | .mul => some (.int k (k.wrap (a * b)))
  | .and => some (.int k (bits .and k a b))
  | .or => some (.int k (bits .or k a b))
  | .xor => some (.int k (bits .xor k a b))
  | .andNot => some (.int k (bits .andNot k a b))
  | .eql => some (.bool (a == b))
  | .neq => some (.bool (a != b))
  | .lss => some (.bool (decide (a < b)))
  | .leq => some (.bool (decide (a ≤ b)))
  | .gtr => some (.bool (decide (a > b)))
  | .geq => some (.bool (decide (a ≥ b)))
  | _ => none

/-- 'x op y' on plain values. -/
def awpBin (P : Program) (op : BinOp) (t : TypeId) (x y : AV) (K : Value → Prop) : Prop :=
  match x, y with
  | .v (.int k a), .v (.int k' b) =>
    match op with
    | .shl => 0 ≤ b ∧ K (.int k (k.wrap (a * 2 ^ min b.toNat k.bits)))
    | .shr => 0 ≤ b ∧ K (.int k (a.fdiv (2 ^ min b.toNat k.bits)))
    | .quo => k = k' ∧ b ≠ 0 ∧ K (.int k (k.wrap (a.tdiv b)))
    | .rem => k = k' ∧ b ≠ 0 ∧ K (.int k (a.tmod b))
    | op => k = k' ∧ match intOp op k a b with
      | some v => K v
      | none => False
  | .v (.string a), .v (.string b) =>
    match op with
    | .add => a.size + b.size ≤ maxLen ∧ K (.string (a ++ b))
    | .eql => K (.bool (a.toList == b.toList))
    | .neq => K (.bool (!(a.toList == b.toList)))
    | .lss => K (.bool (Op.bytesLess a.toList b.toList))
    | .leq => K (.bool (Op.bytesLess a.toList b.toList || a.toList == b.toList))
    | .gtr => K (.bool (!(Op.bytesLess a.toList b.toList || a.toList == b.toList)))
    | .geq => K (.bool (!Op.bytesLess a.toList b.toList))
    | _ => False
  | .v (.bool a), .v (.bool b) =>
    P.underlying t = some .bool ∧ match op with
    | .eql => K (.bool (a == b))
    | .neq => K (.bool (!(a == b)))
    | _ => False
  | _, _ => False

def awpConv (P : Program) (src dst : TypeId) (x : AV) (K : AV → Prop) : Prop :=
  match x with
  | .v (.int _ n) => match P.underlying dst with
    | some (.int k) => P.underlying src ≠ none ∧ K (.v (.int k (k.wrap n)))
    | _ => False
  | _ => False

def asSl (sz : Nat) : AV → Option (List AV)
  | .sl sz' xs => if sz' = sz then some xs else none
  | .v (.slice none 0 0) => some []
  | _ => none

/-- The type of a slice's elements, and how many cells one has. -/
def elemSz (P : Program) (t : TypeId) : Option (TypeId × Nat) :=
  match P.underlying t with
  | some (.slice e) => match P.info? e with
    | some i => some (e, i.size)
    | none => none
  | _ => none

def aggT (P : Program) (t : TypeId) : Bool :=
  match P.underlying t with
  | some (.struct _) | some (.array _ _) => true
  | _ => false

def szT (P : Program) (t : TypeId) : Option Nat := (P.info? t).map (·.size)

/-- The value that lies in the first of some cells. -/
def ofCells (P : Program) (t : TypeId) (cs : List AV) (K : AV → Prop) : Prop :=
  match P.underlying t, szT P t with
  | some d, some n =>
    match d with
    | .struct _ | .array _ _ => n ≤ cs.length ∧ K (.agg (cs.take n))
    | _ => 0 < cs.length ∧ ∀ c, cs.head? = some c → K (val c)
  | _, _ => False

/-- Two ways, by a bool. -/
def condA (x : AV) (A B : Prop) : Prop :=
  match x with
  | .v (.bool t) => (t = true → A) ∧ (t = false → B)
  | _ => False

/-- An element's place. -/
def awpIdx (e : Option (TypeId × Nat)) (x i : AV) (K : AV → Prop) : Prop :=
  match e with
  | some (_, sz) => match asSl sz x, i with
    | some xs, .v (.int _ n) => (0 ≤ n ∧ n < xs.length) ∧ ∀ x, xs[n.toNat]? = some x → K (.eptr x.cells)
    | _, _ => False
  | none => False

/-- A part of a tuple. -/
def awpExt (t : AV) (i : Nat) (K : AV → Prop) : Prop :=
  match t with
  | .tup vs => i < vs.length ∧ ∀ v, vs[i]? = some v → K (val v)
  | _ => False

/-- A part of a tuple of which one part is a slice of the call's own. -/
def extAl (k i : Nat) (K : AV → Prop) : AV → Prop
  | .otup i' m e sz xs rest => if i' = i then K (.part k i) else i < rest.length ∧ ∀ v, rest[i]? = some v → K (val v)
  | .tup vs => awpExt (.tup vs) i K
  | _ => False
def awpExtS (s : Slots) (x : AV) (i : Nat) (K : AV → Prop) : Prop :=
  match x with
  | .alias k => extAl k i K (s k)
  | x => awpExt x i K

/-- What lies where a pointer points. -/
def objA (o : Nat) (x : Option AObj) (K : List AV → Prop) : Prop :=
  match x with
  | some (.cells cs) => K (cs.drop o)
  | some (.row _ _ cs) => K (cs.drop o)
  | _ => False

def boxA (h : Heap) (o : Nat) (x : AV) (K : List AV → Prop) : Prop :=
  match x with
  | .box cs => K (cs.drop o)
  | .eptr cs => K (cs.drop o)
  | .ptr i o0 => objA (o0 + o) h[i]? K
  | _ => False

/-- What lies in an element of a slice of the call's own. -/
def eltA (sz i o : Nat) (x : AV) (K : List AV → Prop) : Prop :=
  match x with
  | .own _ _ sz' xs => sz' = sz ∧ i < xs.length ∧ ∀ x, xs[i]? = some x → K (x.cells.drop o)
  | _ => False

def atPlace (s : Slots) (h : Heap) (x : AV) (K : List AV → Prop) : Prop :=
  match x with
  | .eptr cs => K cs
  | .place k o => boxA h o (s k) K
  | .ptr i o => objA o h[i]? K
  | .elt k sz i o => eltA sz i o (s k) K
  | _ => False

/-- A length. -/
def lenA (d : Option TypeDesc) (x : AV) (K : AV → Prop) : Prop :=
  match x with
  | .v (.string b) => d = some .string ∧ K (.v (.int .i64 b.size))
  | .v (.slice none 0 0) => d.any (fun d => d matches .slice _) = true ∧ K (.v (.int .i64 0))
  | .sl _ xs => d.any (fun d => d matches .slice _) = true ∧ K (.v (.int .i64 xs.length))
  | .osl _ _ n _ => d.any (fun d => d matches .slice _) = true ∧ K (.v (.int .i64 n))
  | _ => False
def minA (x y : AV) (K : AV → Prop) : Prop :=
  match x, y with
  | .v (.int k x), .v (.int k' y) => k = k' ∧ K (.v (.int k (if y < x then y else x)))
  | _, _ => False
def maxA (x y : AV) (K : AV → Prop) : Prop :=
  match x, y with
  | .v (.int k x), .v (.int k' y) => k = k' ∧ K (.v (.int k (if x < y then y else x)))
  | _, _ => False

/-- What a cell may bear, wherever it lies. -/
def solid : AV → Bool
  | .v _ | .sl .. | .agg _ | .eptr _ | .ptr .. | .mp _ | .clo .. => true
  | _ => false

/-- A slice that is written out. -/
def awpBS (P : Program) (e : Option (TypeId × Nat)) (n : Nat) (ix : List Nat) (xs : List AV) (K : AV → Prop) : Prop :=
  match e with
  | some (e, sz) => ((P.info? e).any fun i => i.zero.isSome) = true ∧ 0 < sz ∧ n * sz ≤ 16777216 ∧ ix = List.range n ∧ xs.length = n ∧ (∀ x ∈ xs, solid x = true ∧ x.cells.length = sz) ∧ K (.own true e sz xs)
  | none => False

/-- The conversion of bytes that were written out. -/
def awpCv (P : Program) (src dst : TypeId) (p : AV × Slots) (x : AV) (s : Slots) (K : AV → Slots → Prop) : Prop :=
  match p with
  | (.own _ _ sz xs, s') => xs ≠ [] ∧ src = dst ∧ (match P.underlying dst with | some (.slice e) => P.underlying e = some (.int .u8) | _ => False) ∧ K (.sl sz xs) s'
  | _ => awpConv P src dst x fun v => K v s

/-- 'op x'. -/
def awpUn (op : UnOp) (x : AV) (K : Value → Prop) : Prop :=
  match op, x with
  | .not, .v (.bool b) => K (.bool (!b))
  | .neg, .v (.int k n) => K (.int k (k.wrap (0 - n)))
  | .xor, .v (.int k n) => K (.int k (bits .xor k (if k.signed then -1 else k.max) n))
  | _, _ => False

/-- A field: where it begins, its type. -/
def fieldOf (P : Program) (t : TypeId) (f : Nat) : Option (Nat × TypeId) :=
  match P.underlying t with
  | some (.struct fs) => match fs[f]? with
    | some x => match P.info? x.type with
      | some i => if 0 < i.size then some (x.offset, x.type) else none
      | none => none
    | none => none
  | _ => none

def awpNc (x : AV) (K : AV → Prop) : Prop :=
  match x with
  | .place .. | .eptr _ | .ptr .. | .elt .. => K x
  | _ => False

def awpFa (f : Option (Nat × TypeId)) (x : AV) (K : AV → Prop) : Prop :=
  match f with
  | some (off, _) => match x with
    | .place k o => K (.place k (o + off))
    | .eptr cs => K (.eptr (cs.drop off))
    | .ptr i o => K (.ptr i (o + off))
    | .elt k sz i o => K (.elt k sz i (o + off))
    | _ => False
  | none => False

def awpField (P : Program) (f : Option (Nat × TypeId)) (x : AV) (K : AV → Prop) : Prop :=
  match f, x with
  | some (off, t), .agg cs => ofCells P t (cs.drop off) K
  | _, _ => False

def awpBox (x : AV) (K : AV → Prop) : Prop := solid x = true ∧ K (.box x.cells)

def awpAlloc (z : Option Value) (K : AV → Prop) : Prop :=
  match z with
  | some z => (plain z = true ∨ ∃ cs, z = .agg cs ∧ cs.all plain = true) ∧ K (.box (cst z).cells)
  | none => False

def putCells (cs : List AV) (o : Nat) (xs : List AV) : List AV := cs.take o ++ xs ++ cs.drop (o + xs.length)

/-- Cells as one value, as the value was that lay there. -/
def reCell (y : AV) (cs : List AV) : AV :=
  match y with
  | .agg _ => .agg cs
  | _ => (cs.head?).getD .any

/-- A store into an element of a slice of the call's own, of which nothing was published. -/
def awpStoreE (sz i o : Nat) (ys : List AV) (x : AV) (K : AV → Prop) : Prop :=
  match x with
  | .own true e sz' xs => sz' = sz ∧ o + ys.length ≤ sz ∧ i < xs.length ∧ ∀ y, xs[i]? = some y → (reCell y (putCells y.cells o ys)).cells = putCells y.cells o ys ∧ K (.own true e sz' (xs.set i (reCell y (putCells y.cells o ys))))
  | _ => False

/-- A store into a variable of the call's own, or into an object. -/
def awpStore (n : Option Nat) (p x : AV) (s : Slots) (h : Heap) (K : AV → Slots → Heap → Prop) : Prop :=
  solid x = true ∧ n = some x.cells.length ∧ match p with
    | .place k o => (match s k with
      | .box cs => o + x.cells.length ≤ cs.length ∧ K .any (set s k (.box (putCells cs o x.cells))) h
      | .ptr i o0 => (match h[i]? with
        | some (.cells cs) => o0 + o + x.cells.length ≤ cs.length ∧ K .any s (h.set i (.cells (putCells cs (o0 + o) x.cells)))
        | _ => False)
      | _ => False)
    | .ptr i o => (match h[i]? with
      | some (.cells cs) => o + x.cells.length ≤ cs.length ∧ K .any s (h.set i (.cells (putCells cs o x.cells)))
      | some (.row e m cs) => o + x.cells.length ≤ cs.length ∧ K .any s (h.set i (.row e m (putCells cs o x.cells)))
      | _ => False)
    | .elt k sz i o => awpStoreE sz i o x.cells (s k) fun y => K .any (set s k y) h
    | _ => False

def boundOf (d : Int) : Option AV → Option Int
  | none => some d
  | some (.v (.int _ n)) => some n
  | _ => none

/-- A piece of a slice, or of a string. -/
def awpSlice (P : Program) (t : TypeId) (x : AV) (lo hi mx : Option AV) (K : AV → Prop) : Prop :=
  match x with
  | .sl sz xs => match elemSz P t, boundOf 0 lo, boundOf xs.length hi with
    | some (_, sz'), some l, some h => sz' = sz ∧ (0 ≤ l ∧ l ≤ h ∧ h ≤ xs.length) ∧ (match mx with
        | none => True
        | some _ => lo.isSome = true ∧ hi.isSome = true ∧ match boundOf 0 mx with | some m => h ≤ m ∧ m ≤ xs.length | none => False) ∧ K (.sl sz ((xs.take h.toNat).drop l.toNat))
    | _, _, _ => False
  | .osl id off n c => match elemSz P t, boundOf 0 lo, boundOf n hi with
    | some (_, sz), some l, some h => mx = none ∧ (0 ≤ l ∧ l ≤ h ∧ h ≤ n) ∧ ((l = 0 ∨ l < c) → K (.osl id (off + l.toNat * sz) (h.toNat - l.toNat) (c - l.toNat))) ∧ (¬ (l = 0 ∨ l < c) → K (.sl sz []))
    | _, _, _ => False
  | .v (.string b) => match boundOf 0 lo, boundOf b.size hi with
    | some l, some h => P.underlying t = some .string ∧ mx = none ∧ (0 ≤ l ∧ l ≤ h ∧ h ≤ b.size) ∧ K (.v (.string (b.extract l.toNat h.toNat)))
    | _, _ => False
  | _ => False

/-- The type of a slice's elements, how many cells one has, how many bytes; its zero is known. -/
def elemIn (P : Program) (t : TypeId) : Option (TypeId × Nat × Nat) :=
  match P.underlying t with
  | some (.slice e) => match P.info? e with
    | some i => match i.zero with
      | some z => if z.cells.size = i.size ∧ 0 < i.size then some (e, i.size, i.bytes) else none
      | none => none
    | none => none
  | _ => none

def encB (b : UInt8) : AV := .v (.int .u8 b.toNat)

/-- What is appended. -/
def srcOf (P : Program) (tx : TypeId) (sz : Nat) (y : AV) (K : List AV → Prop) : Prop :=
  match y with
  | .sl sz' ys => sz' = sz ∧ ((P.underlying tx).any fun d => d matches .slice _) = true ∧ K ys
  | .v (.slice none 0 0) => ((P.underlying tx).any fun d => d matches .slice _) = true ∧ K []
  | .v (.string b) => sz = 1 ∧ P.underlying tx = some .string ∧ K (b.data.toList.map encB)
  | _ => False

def appTo (p : AV × Slots) (e sz : Nat) (K : Bool → List AV → Slots → Prop) : Prop :=
  match p with
  | (.own m e' sz' xs, s') => e' = e ∧ sz' = sz ∧ K m xs s'
  | (.v (.slice none 0 0), s') => K true [] s'
  | _ => False

/-- 'append': what is appended to is the call's own, or nil. -/
def awpAppend (P : Program) (t tx : TypeId) (p : AV × Slots) (y : Slots → AV) (K : AV → Slots → Prop) : Prop :=
  match elemIn P t with
  | some (e, sz, bs) => appTo p e sz fun m xs s' => srcOf P tx sz (y s') fun ys =>
      (∀ c ∈ ys, c.cells.length = sz) ∧ (xs.length + ys.length) * (bs + 1) ≤ 140737488355328 ∧ K (.own m e sz (xs ++ ys)) s'
  | none => False

/-- 'make' of a slice. -/
def awpMake (P : Program) (t : TypeId) (l c : AV) (K : AV → Prop) : Prop :=
  match elemIn P t, l, c with
  | some (e, sz, bs), .v (.int _ n), .v (.int _ c) => (0 ≤ n ∧ n ≤ c ∧ c ≤ 9223372036854775807 ∧ c * bs ≤ 140737488355328) ∧ ∀ z, (P.info? e).bind (·.zero) = some z → (plain z = true ∨ ∃ cs, z = .agg cs ∧ cs.all plain = true) ∧ K (.own true e sz (List.replicate n.toNat (cst z)))
  | _, _, _ => False

def awpBuiltin (P : Program) (b : Builtin) (ts : Array TypeId) (os : List Operand) (s : Slots) (h : Heap) (K : AV → Slots → Heap → Prop) : Prop :=
  match b, os with
  | .len, [o] => lenA ((ts[0]?).bind P.underlying) (look s (ev s o)) fun v => K v s h
  | .max, [a, b] => maxA (ev s a) (ev s b) fun v => K v s h
  | .min, [a, b] => minA (ev s a) (ev s b) fun v => K v s h
  | _, _ => False

def bytesT (P : Program) (t : TypeId) : Bool :=
  match P.underlying t with
  | some (.slice e) => (match P.underlying e with | some (.int .u8) => true | _ => false)
  | _ => false

def eqK (op : BinOp) (b : Bool) (K : Value → Prop) : Prop :=
  match op with
  | .eql => K (.bool b)
  | .neq => K (.bool (!b))
  | _ => False
def nilSl (x : AV) (K : Bool → Prop) : Prop :=
  match x with
  | .v (.slice none 0 0) => K true
  | .sl _ [] => ∀ b, K b
  | .sl _ (_ :: _) => K false
  | _ => False
def nilPt (x : AV) (K : Bool → Prop) : Prop :=
  match x with
  | .v (.pointer none) => K true
  | .ptr .. => K false
  | .eptr _ => K false
  | _ => False
def nilMp (x : AV) (K : Bool → Prop) : Prop :=
  match x with
  | .v (.map none) => K true
  | .mp _ => K false
  | _ => False
def nilFn (x : AV) (K : Bool → Prop) : Prop :=
  match x with
  | .v .nilFunc => K true
  | .clo .. => K false
  | _ => False

/-- 'x op y', nil beside. -/
def awpBinX (P : Program) (op : BinOp) (t : TypeId) (x y : AV) (K : Value → Prop) : Prop :=
  match y with
  | .v (.slice none 0 0) => ((P.underlying t).any fun d => d matches .slice _) = true ∧ nilSl x fun b => eqK op b K
  | .v (.pointer none) => ((P.underlying t).any fun d => d matches .pointer _) = true ∧ nilPt x fun b => eqK op b K
  | .v (.map none) => ((P.underlying t).any fun d => d matches .map _ _) = true ∧ nilMp x fun b => eqK op b K
  | .v .nilFunc => ((P.underlying t).any fun d => d matches .func _ _ _) = true ∧ nilFn x fun b => eqK op b K
  | _ => awpBin P op t x y K

def awpStrOf (P : Program) (src : TypeId) (x : AV) (K : AV → Prop) : Prop :=
  match x with
  | .sl sz xs => sz = 1 ∧ bytesT P src = true ∧ ∃ l : List UInt8, xs = l.map encB ∧ K (.v (.string ⟨l.toArray⟩))
  | .v (.slice none 0 0) => bytesT P src = true ∧ K (.v (.string ⟨#[]⟩))
  | .v (.string b) => P.underlying src = some .string ∧ K (.v (.string b))
  | _ => False

/-- A conversion, of bytes and strings too. -/
def awpCvX (P : Program) (src dst : TypeId) (p : AV × Slots) (lk x : AV) (s : Slots) (K : AV → Slots → Prop) : Prop :=
  match P.underlying dst with
  | some .string => awpStrOf P src lk fun v => K v s
  | _ => match lk with
    | .v (.string b) => bytesT P dst = true ∧ P.underlying src = some .string ∧ b.size ≤ maxLen ∧ K (.sl 1 (b.data.toList.map encB)) s
    | _ => awpCv P src dst p x s K

/-- The slot that bears a slice of the call's own. -/
def slotOf (s : Slots) (o : Operand) : Option Nat :=
  match o with
  | .tmp t => match s t with
    | .own .. => some t
    | .alias k => some k
    | _ => none
  | _ => none

def copyTo (k : Nat) (x y : AV) (s : Slots) (K : AV → Slots → Prop) : Prop :=
  match x, y with
  | .own true e sz xs, .sl sz' ys => sz = 1 ∧ sz' = 1 ∧ K (.v (.int .i64 (min ys.length xs.length : Nat))) (set s k (.own true e 1 (ys.take xs.length ++ xs.drop ys.length)))
  | _, _ => False

/-- 'copy' into a slice of the call's own. -/
def awpCopy (P : Program) (t : TypeId) (k : Option Nat) (y : AV) (s : Slots) (K : AV → Slots → Prop) : Prop :=
  match elemSz P t, k with
  | some (_, sz), some k => sz = 1 ∧ copyTo k (s k) y s K
  | _, _ => False

/-- A string's byte. -/
def awpIndex (P : Program) (t : TypeId) (x i : AV) (K : AV → Prop) : Prop :=
  match x, i with
  | .v (.string b), .v (.int _ n) => P.underlying t = some .string ∧ (0 ≤ n ∧ n < b.size) ∧ K (.v (.int .u8 (b.data.toList.getD n.toNat 0).toNat))
  | _, _ => False

def arrSz (P : Program) (t : TypeId) : Option (Nat × Nat) :=
  match P.underlying t with
  | some (.array len e) => match P.info? e with
    | some i => if 0 < i.size then some (len, i.size) else none
    | none => none
  | _ => none

def awpArr (len sz : Nat) (x i : AV) (K : AV → Prop) : Prop :=
  match i with
  | .v (.int _ n) => (0 ≤ n ∧ n < len) ∧ match x with
    | .place k o => K (.place k (o + n.toNat * sz))
    | .eptr cs => K (.eptr (cs.drop (n.toNat * sz)))
    | .ptr i o => K (.ptr i (o + n.toNat * sz))
    | _ => False
  | _ => False

/-- An element's place in a slice of the call's own. -/
def awpIdxO (e : Option (TypeId × Nat)) (k : Nat) (x i : AV) (K : AV → Prop) : Prop :=
  match e, x, i with
  | some (_, sz), .own _ _ sz' xs, .v (.int _ n) => sz' = sz ∧ (0 ≤ n ∧ n < xs.length) ∧ K (.elt k sz n.toNat 0)
  | _, _, _ => False

/-- An element's place in a slice over an object. -/
def awpIdxL (e : Option (TypeId × Nat)) (id off n : Nat) (i : AV) (K : AV → Prop) : Prop :=
  match e, i with
  | some (_, sz), .v (.int _ q) => (0 ≤ q ∧ q < n) ∧ K (.ptr id (off + q.toNat * sz))
  | _, _ => False

/-- An element's place, in an array too. -/
def awpIdxX (s : Slots) (e : Option (TypeId × Nat)) (ar : Option (Nat × Nat)) (m x i : AV) (K : AV → Prop) : Prop :=
  match ar with
  | some (len, sz) => awpArr len sz m i K
  | none => match m with
    | .alias k => awpIdxO e k (s k) i K
    | .osl id off n _ => awpIdxL e id off n i K
    | _ => awpIdx e x i K

/-- Two keys are one. -/
def keyEq : Value → Value → Bool
  | .int k a, .int k' b => decide (k = k') && a == b
  | .string a, .string b => a == b
  | .bool a, .bool b => a == b
  | _, _ => false

/-- The entry at a key. -/
def mget (k : Value) (es : List Ent) : Option Ent := es.find? fun e => keyEq k e.key

/-- The entries behind a store. -/
def mput (k : Value) (v : AV) (clock : Nat) : List Ent → List Ent
  | [] => [⟨k, v, clock⟩]
  | e :: es => if keyEq k e.key then ⟨k, v, e.born⟩ :: es else e :: mput k v clock es
def mclk (k : Value) (es : List Ent) (clock : Nat) : Nat := if (mget k es).isSome then clock else clock + 1

/-- The entries behind a deletion. -/
def mdel (k : Value) : List Ent → List Ent
  | [] => []
  | e :: es => if keyEq k e.key then es else e :: mdel k es

/-- A map's entries. -/
def withMap (m : AV) (h : Heap) (K : List Ent → Nat → Prop) : Prop :=
  match m with
  | .v (.map none) => K [] 0
  | .mp id => match h[id]? with
    | some (.map es clock) => K es clock
    | _ => False
  | _ => False

def withObj (m : AV) (h : Heap) (K : Nat → List Ent → Nat → Prop) : Prop :=
  match m with
  | .mp id => match h[id]? with
    | some (.map es clock) => K id es clock
    | _ => False
  | _ => False

/-- A key of a map's type. -/
def withKey (P : Program) (t : TypeId) (k : AV) (K : TypeDesc → TypeId → Value → Prop) : Prop :=
  match P.underlying t with
  | some (.map kt et) => match P.underlying kt, k with
    | some d, .v kv => MapKept.IsKey d kv ∧ K d et kv
    | _, _ => False
  | _ => False

def lookRes (ok : Bool) (x : AV) (b : Bool) : AV := if ok then .tup [x, .v (.bool b)] else x

def awpLookup (P : Program) (t : TypeId) (m k : AV) (ok : Bool) (h : Heap) (K : AV → Prop) : Prop :=
  withKey P t k fun d et kv => withMap m h fun es _ => (∀ e ∈ es, MapKept.IsKey d e.key) ∧
    (∀ e, mget kv es = some e → K (lookRes ok e.val true)) ∧
    (mget kv es = none → match (P.info? et).bind (·.zero) with
      | some z => K (lookRes ok (cst z) false)
      | none => False)

def awpUpdate (P : Program) (t : TypeId) (m k x : AV) (h : Heap) (K : Heap → Prop) : Prop :=
  withKey P t k fun d _ kv => withObj m h fun id es clock => (∀ e ∈ es, MapKept.IsKey d e.key) ∧ K (h.set id (.map (mput kv x clock es) (mclk kv es clock)))

def awpDelete (P : Program) (t : TypeId) (m k : AV) (h : Heap) (K : Heap → Prop) : Prop :=
  withKey P t k fun d _ kv => withObj m h fun id es clock => (∀ e ∈ es, MapKept.IsKey d e.key) ∧ K (h.set id (.map (mdel kv es) clock))

def mapT (P : Program) (t : TypeId) : Bool :=
  match P.underlying t with
  | some (.map _ _) => true
  | _ => false

def awpClear (P : Program) (t : TypeId) (m : AV) (h : Heap) (K : Heap → Prop) : Prop :=
  mapT P t = true ∧ withObj m h fun id _ clock => K (h.set id (.map [] clock))

/-- 'clear' of a slice over an object: of what lies there nothing is told any more. -/
def awpClearS (P : Program) (t : TypeId) (id off n : Nat) (h : Heap) (K : Heap → Prop) : Prop :=
  match P.underlying t with
  | some (.slice e) => match (P.info? e).bind (·.zero), h[id]? with
    | some z, some (.row e' m cs) => (plain z = true ∨ ∃ zs, z = .agg zs ∧ zs.all plain = true) ∧ off + n * z.cells.size ≤ cs.length ∧ K (h.set id (.row e' m (putCells cs off (List.replicate (n * z.cells.size) .any))))
    | _, _ => False
  | _ => False
def awpClearX (P : Program) (t : TypeId) (m : AV) (h : Heap) (K : Heap → Prop) : Prop :=
  match m with
  | .osl id off n _ => awpClearS P t id off n h K
  | .sl _ [] => (∃ e, P.underlying t = some (.slice e)) ∧ K h
  | m => awpClear P t m h K

def awpRange (P : Program) (t : TypeId) (m : AV) (h : Heap) (K : AV → Prop) : Prop :=
  mapT P t = true ∧ withObj m h fun id _ clock => K (.iter id clock [] clock)

/-- What a loop over a map has still before it. -/
def leftE (es : List Ent) (seen : List Nat) : List Ent := es.filter fun e => !seen.contains e.born

/-- A step of a loop over a map, into which nothing new was laid: any entry that was not seen. -/
def awpNext (x : AV) (s : Slots) (t : Nat) (h : Heap) (K : AV → Slots → Prop) : Prop :=
  match x with
  | .iter id since seen _ => match h[id]? with
    | some (.map es clock) => ((∀ e ∈ es, e.born < since) ∧ since ≤ clock) ∧ (leftE es seen = [] → K (.tup [.v (.bool false)]) s) ∧
        ∀ e ∈ leftE es seen, K (.tup [.v (.bool true), .v e.key, e.val]) (set s t (.iter id since (seen ++ [e.born]) clock))
    | _ => False
  | _ => False

def awpEntry (x : AV) (h : Heap) (K : AV → Prop) : Prop :=
  match x with
  | .iter id _ seen c0 => match h[id]?, seen.getLast? with
    | some (.map es clock), some b => clock = c0 ∧ (∃ e, es.find? (fun e => e.born == b) = some e) ∧ ∀ e, es.find? (fun e => e.born == b) = some e → K (.tup [.v e.key, e.val])
    | _, _ => False
  | _ => False

def tmpOf : Operand → Nat
  | .tmp t => t
  | _ => 0

/-- A struct's fields: where each begins, how many cells it has. -/
def fieldsAt (P : Program) (t : TypeId) : Option (List (Nat × Nat)) :=
  match P.underlying t with
  | some (.struct fs) => fs.toList.mapM fun f => (P.info? f.type).map fun i => (f.offset, i.size)
  | _ => none

def fillA (places : List (Nat × Nat)) (cs : List AV) : List (Nat × AV) → Option (List AV)
  | [] => some cs
  | (i, x) :: r => match places[i]? with
    | none => none
    | some (off, n) => if solid x && x.cells.length == n && decide (off + n ≤ cs.length) then fillA places (cs.take off ++ x.cells ++ cs.drop (off + n)) r else none

/-- A struct that is written out. -/
def awpBuild (P : Program) (t : TypeId) (parts : List (Nat × AV)) (K : AV → Prop) : Prop :=
  match fieldsAt P t, (P.info? t).bind (·.zero) with
  | some places, some (.agg zs) => zs.all plain = true ∧ match fillA places (zs.toList.map .v) parts with
    | some cs => K (.agg cs)
    | none => False
  | _, _ => False

/-- The builtins, those that write too. -/
def awpBui (P : Program) (b : Builtin) (ts : List TypeId) (tsA : Array TypeId) (os : List Operand) (s : Slots) (h : Heap) (K : AV → Slots → Heap → Prop) : Prop :=
  match b with
  | .append => match os, ts with
    | [x, y], [t, tx] => awpAppend P t tx (tk s x) (fun s' => look s' (ev s' y)) fun v s' => K v s' h
    | _, _ => False
  | .copy => match os, ts with
    | [x, y], [t, _] => awpCopy P t (slotOf s x) (look s (ev s y)) s fun v s' => K v s' h
    | _, _ => False
  | .delete => match os, ts with
    | [m, k], t :: _ => awpDelete P t (ev s m) (ev s k) h fun h' => K (.tup []) s h'
    | _, _ => False
  | .clear => match os, ts with
    | [m], [t] => awpClearX P t (ev s m) h fun h' => K (.tup []) s h'
    | _, _ => False
  | b => awpBuiltin P b tsA os s h K

mutual
/-- What may be forgotten of an argument: all; that a nil slice is nil; so of the parts of a struct, or of a tuple. -/
inductive Ga : AV → AV → Prop
  | refl (x : AV) : Ga x x
  | any (x : AV) : Ga x .any
  | nil (sz : Nat) : Ga (.v (.slice none 0 0)) (.sl sz [])
  | agg {xs ys : List AV} (h : GaL xs ys) : Ga (.agg xs) (.agg ys)
  | tup {xs ys : List AV} (h : GaL xs ys) : Ga (.tup xs) (.tup ys)
inductive GaL : List AV → List AV → Prop
  | nil : GaL [] []
  | cons {x y : AV} {xs ys : List AV} (h : Ga x y) (t : GaL xs ys) : GaL (x :: xs) (y :: ys)
end

def awpCall (T : FuncId → Option Spec) (f : FuncId) (caps : List AV) (os : List Operand) (s : Slots) (h : Heap) (K : AV → Slots → Heap → Prop) : Prop :=
  match T f with
  | some S => ∃ as, GaL ((escs s h os).1 ++ caps) as ∧ ∃ Q0, S as (escs s h os).2.2 Q0 ∧ ∀ r h', Q0 r h' → K r (escs s h os).2.1 h'
  | none => False

/-- Where a slice of the call's own lies that an operand hands on. -/
def ownSlot (s : Slots) : Operand → Option Nat
  | .tmp t => match s t with
    | .own .. => some t
    | .alias k => some k
    | _ => none
  | _ => none

/-- What a call answers that may have turned a slice, which lay in the object 'id' meanwhile: the slice, shorter perhaps; or nothing, and the slice is back in its slot. -/
def inOut (e sz c id : Nat) (cs xs : List AV) (s3 : Slots) (k0 : Nat) (h2 : Heap) (K : AV → Slots → Heap → Prop) (r : AV) : Prop :=
  ∃ xs', (∀ x ∈ xs', x ∈ xs) ∧ match r with
    | .osl i off n c' => i = id ∧ off = 0 ∧ c' = c ∧ xs'.length = n ∧ cs.take (n * sz) = flat xs' ∧ K (.own true e sz xs') s3 h2
    | .tup [] => xs'.length = xs.length ∧ cs.take (xs.length * sz) = flat xs' ∧ K (.tup []) (set s3 k0 (.own true e sz xs')) h2
    | _ => False
def inNil (e sz : Nat) (s3 : Slots) (k0 : Nat) (h2 : Heap) (K : AV → Slots → Heap → Prop) (r : AV) : Prop :=
  match r with
  | .v (.slice none 0 0) => K (.own true e sz []) s3 h2
  | .tup [] => K (.tup []) (set s3 k0 (.own true e sz [])) h2
  | _ => False

/-- A call that may turn a slice of the call's own, its first argument: an object meanwhile. -/
def inCall (S : Spec) (as : List AV) (s3 : Slots) (h2 : Heap) (k0 : Option Nat) (K : AV → Slots → Heap → Prop) (x : AV) : Prop :=
  match x, k0 with
  | .own true e sz xs, some k0 =>
    (xs = [] → ∃ Q0, S (.v (.slice none 0 0) :: as) h2 Q0 ∧ ∀ r h', Q0 r h' → h' = h2 ∧ inNil e sz s3 k0 h2 K r) ∧
    ∀ c, xs.length ≤ c → c ≤ maxLen → ∃ Q0, S (.osl h2.length 0 xs.length c :: as) (h2 ++ [.row e (c * sz) (flat xs)]) Q0 ∧
      ∀ r h', Q0 r h' → ∃ cs, h' = h2 ++ [.row e (c * sz) cs] ∧ inOut e sz c h2.length cs xs s3 k0 h2 K r
  | _, _ => False
def awpCallI (T : FuncId → Option Spec) (f : FuncId) (caps : List AV) (os : List Operand) (s : Slots) (h : Heap) (K : AV → Slots → Heap → Prop) : Prop :=
  match T f, caps, os with
  | some S, [], o :: rest => inCall S (escs s h rest).1 (tk (escs s h rest).2.1 o).2 (escs s h rest).2.2 (ownSlot (escs s h rest).2.1 o) K (tk (escs s h rest).2.1 o).1
  | _, _, _ => False

/-- A call through a function's value. -/
def awpCallV (T : FuncId → Option Spec) (x : AV) (os : List Operand) (s : Slots) (h : Heap) (K : AV → Slots → Heap → Prop) : Prop :=
  match x with
  | .clo f caps => awpCall T f caps os s h K ∨ awpCallI T f caps os s h K
  | _ => False

def awpOp (P : Program) (T : FuncId → Option Spec) (o : Op) (s : Slots) (h : Heap) (K : AV → Slots → Heap → Prop) : Prop :=
  match o with
  | .move x => K (mv s x) s h
  | .assign x => K (tk s x).1 (tk s x).2 h
  | .pick c a b => condA (ev s c) (K (val (ev s a)) s h) (K (val (ev s b)) s h)
  | .binOp op t x y _ => awpBinX P op t (look s (ev s x)) (look s (ev s y)) fun v => K (.v v) s h
  | .convert src dst x => awpCvX P src dst (tk s x) (look s (ev s x)) (ev s x) s fun v s' => K v s' h
  | .buildSlice t n parts => awpBS P (elemSz P t) n (parts.toList.map (·.1)) (frzs s (parts.toList.map (·.2))).1 fun v => K v (frzs s (parts.toList.map (·.2))).2 h
  | .indexAddr t x i => awpIdxX s (elemSz P t) (arrSz P t) (mv s x) (ev s x) (ev s i) fun v => K v s h
  | .index t x i => awpIndex P t (ev s x) (ev s i) fun v => K v s h
  | .load t p => atPlace s h (mv s p) fun cs => ofCells P t cs fun v => K v s h
  | .nilCheck x => awpNc (mv s x) fun v => K v s h
  | .fieldAddr t x f => awpFa (fieldOf P t f) (mv s x) fun v => K v s h
  | .field t x f => awpField P (fieldOf P t f) (ev s x) fun v => K v s h
  | .box _ x => awpBox (frz s x).1 fun v => K v (frz s x).2 h
  | .alloc e => awpAlloc ((P.info? e).bind (·.zero)) fun v => K v s h
  | .store t p x => awpStore (szT P t) (mv s p) (frz s x).1 (frz s x).2 h K
  | .makeFunc (.func f) first caps => first = #[] ∧ K (.clo f (escs s h caps.toList).1) (escs s h caps.toList).2.1 (escs s h caps.toList).2.2
  | .unOp op _ x => awpUn op (ev s x) fun v => K (.v v) s h
  | .slice t x lo hi mx => awpSlice P t (frz s x).1 (lo.map (ev s)) (hi.map (ev s)) (mx.map (ev s)) fun v => K v (frz s x).2 h
  | .makeSlice t l c => awpMake P t (ev s l) (ev s c) fun v => K v s h
  | .extract t i => awpExtS s (mv s t) i fun v => K v s h
  | .call { callee := .value x, args, .. } => awpCallV T (ev s x) args.toList s h K
  | .call { callee := .builtin b, args, argTypes } => awpBui P b argTypes.toList argTypes args.toList s h K
  | .makeMap _ none => K (.mp h.length) s (h ++ [.map [] 0])
  | .lookup t m k ok => awpLookup P t (ev s m) (ev s k) ok h fun v => K v s h
  | .mapUpdate t m k x | .insert t m k x => awpUpdate P t (ev s m) (ev s k) (frz s x).1 h fun h' => K .any (frz s x).2 h'
  | .range t m => awpRange P t (ev s m) h fun v => K v s h
  | .next it false => awpNext (ev s it) s (tmpOf it) h fun v s' => K v s' h
  | .entry it => awpEntry (ev s it) h fun v => K v s h
  | .build t parts => awpBuild P t ((parts.toList.map (·.1)).zip (frzs s (parts.toList.map (·.2))).1) fun v => K v (frzs s (parts.toList.map (·.2))).2 h
  | _ => False

def putD (d : Option Tmp) (s : Slots) (x : AV) : Slots :=
  match d with
  | some d => put s d x
  | none => s

def guardA (want : Bool) (d : Nat) (x : AV) (s : Slots) (A B : Slots → Prop) : Prop :=
  match x with
  | .v (.bool b) => (b = want → A (set s d (.v (.bool want)))) ∧ (b = !want → B (set s d (.v (.bool (!want)))))
  | .tup _ => B s
  | _ => False

/-- A guard: the slot that it asks is known behind it. -/
def awpGuard (want : Bool) (d : Option Tmp) (s : Slots) (A B : Slots → Prop) : Prop :=
  match d with
  | none => False
  | some d => guardA want d (s d) s A B

/-- An operation that is guarded is done where its guard says so; the guard's slot is then known. -/
def awpAt (P : Program) (T : FuncId → Option Spec) (ops : Array Oper) (o : Oper) (s : Slots) (h : Heap) (K : Slots → Heap → Prop) : Prop :=
  match o.guard with
  | none => awpOp P T o.op s h fun x s' h' => K (putD o.dst s' x) h'
  | some (j, want) => awpGuard want ((ops[j]?).bind (·.dst)) s
    (fun s => awpOp P T o.op s h fun x s' h' => K (putD o.dst s' x) h') fun s => K (putD o.dst s (.tup [])) h

def awpOps (P : Program) (T : FuncId → Option Spec) (ops : Array Oper) : List Oper → Slots → Heap → (Slots → Heap → Prop) → Prop
  | [], s, h, K => K s h
  | o :: r, s, h, K => awpAt P T ops o s h fun s' h' => awpOps P T ops r s' h' K

/-- What neither reads nor writes memory. -/
def isPure (P : Program) : Op → Bool
  | .move _ | .pick .. | .binOp .. | .unOp .. | .extract .. | .nilCheck _ | .fieldAddr .. | .slice .. | .indexAddr .. | .index .. => true
  | .convert src _ _ => match P.underlying src with
    | some (.int _) => true
    | _ => false
  | .call { callee := .builtin .len, .. } | .call { callee := .builtin .min, .. } | .call { callee := .builtin .max, .. } => true
  | _ => false

/-- What reads memory only. -/
def isRead : Op → Bool
  | .load .. | .convert .. => true
  | _ => false

def slA : AV → Prop
  | .sl .. => True
  | _ => False
def eptrA : AV → Prop
  | .eptr _ => True
  | _ => False

def takeC (d : Option TypeDesc) (x : AV) : Prop :=
  match d with
  | some (.int _) => True
  | _ => slA x

/-- What may be taken first, in a region that draws: what reads no memory, or only what was published. -/
def takeOk (P : Program) (s : Slots) (o : Op) : Prop :=
  match o with
  | .load _ p => eptrA (mv s p)
  | .convert src _ x => takeC (P.underlying src) (ev s x)
  | _ => True

def pub1 (s : Slots) (k : Nat) : AV → Slots
  | .box cs => set s k (.eptr cs)
  | .own _ _ sz xs => set s k (.sl sz xs)
  | _ => s

/-- Variables that are not written any more are published. -/
def pubs (s : Slots) : List Nat → Slots
  | [] => s
  | k :: ks => pubs (pub1 s k (s k)) ks

/-- The orders of a region that draws: what may be taken first, or all that may come next. -/
inductive Tree where
  | done
  | stop
  | take (i : Nat) (t : Tree)
  | alt (i : Nat) (t r : Tree)

def Tree.deep : Tree → Nat
  | .done | .stop => 0
  | .take _ t => t.deep + 1
  | .alt _ t r => max (t.deep + 1) r.deep

/-- A tree is right for a region. -/
def chk (P : Program) (ops : Array Oper) : Tree → Array Bool → Option (List Nat) → Bool
  | .done, l, none => (Region.ready .any ops l).isEmpty
  | .stop, _, some [] => true
  | .take i t, l, none => (Region.ready .any ops l).contains i && Region.free .any ops l i && ((ops[i]?).any fun o => isPure P o.op || isRead o.op) && chk P ops t (l.setIfInBounds i true) none
  | .alt i t r, l, e => match e.getD (Region.ready .any ops l) with
    | j :: js => i == j && chk P ops t (l.setIfInBounds i true) none && chk P ops r l (some js)
    | [] => false
  | _, _, _ => false

/-- A tree that is right. -/
def grow (P : Program) (ops : Array Oper) : Nat → Array Bool → Tree
  | 0, _ => .done
  | n + 1, l => match Region.ready .any ops l with
    | [] => .done
    | [i] => .alt i (grow P ops n (l.setIfInBounds i true)) .stop
    | rs => match rs.find? fun i => Region.free .any ops l i && ((ops[i]?).any fun o => isPure P o.op) with
      | some i => .take i (grow P ops n (l.setIfInBounds i true))
      | none => rs.foldr (fun i r => .alt i (grow P ops n (l.setIfInBounds i true)) r) .stop

def awpTree (P : Program) (T : FuncId → Option Spec) (ops : Array Oper) : Tree → Slots → Heap → (Slots → Heap → Prop) → Prop
  | .done, s, h, K => K s h
  | .stop, _, _, _ => True
  | .take i t, s, h, K => match ops[i]? with
    | some o => takeOk P s o.op ∧ awpAt P T ops o s h fun s' h' => awpTree P T ops t s' h' K
    | none => False
  | .alt i t r, s, h, K => (match ops[i]? with
    | some o => awpAt P T ops o s h fun s' h' => awpTree P T ops t s' h' K
    | none => False) ∧ awpTree P T ops r s h K

/-- What is forgotten of the ways through a region, so that what follows is shown once. -/
def awpDraw (P : Program) (T : FuncId → Option Spec) (ops : Array Oper) (s : Slots) (h : Heap) (K : Slots → Heap → Prop) : Prop :=
  (P.follows .mixedOrders = true ∧ Region.noSelect ops = true) ∧ ∃ (ks : List Nat) (t : Tree) (C : Slots → Heap → Prop), chk P ops t (Array.replicate ops.size false) none = true ∧ t.deep ≤ ops.size ∧ awpTree P T ops t (pubs s ks) h C ∧ ∀ s h, C s h → K s h

inductive Out where
  | normal | exit (id : Nat) | ret

def thenO (o : Out) (A B : Prop) : Prop :=
  match o with
  | .normal => A
  | _ => B
def blockO (id : Nat) : Out → Out
  | .exit id' => if id' = id then .normal else .exit id'
  | o => o

/-- What may be forgotten of a value: all; that a slice of the call's own was not published; that a nil slice is nil. -/
inductive Fg : AV → AV → Prop
  | refl (x : AV) : Fg x x
  | any (x : AV) : Fg x .any
  | nil (m : Bool) (e sz : Nat) (h : 0 < sz) : Fg (.v (.slice none 0 0)) (.own m e sz [])
  | part (i : Nat) (m : Bool) (e sz : Nat) (xs rest : List AV) : Fg (.otup i m e sz xs rest) (.tup rest)
  | shut (e sz : Nat) (xs : List AV) : Fg (.own true e sz xs) (.own false e sz xs)
  | nils (sz : Nat) : Fg (.v (.slice none 0 0)) (.sl sz [])

def Le (s s1 : Slots) : Prop := ∀ i, Fg (s i) (s1 i)

def awp (P : Program) (T : FuncId → Option Spec) : Code → Slots → Heap → (Out → Slots → Heap → Prop) → Prop
  | .skip, s, h, Q => Q .normal s h
  | .region _ ops false, s, h, Q => awpOps P T ops ops.toList s h (Q .normal)
  | .region _ ops true, s, h, Q => awpDraw P T ops s h (Q .normal)
  | .seq a b, s, h, Q => awp P T a s h fun o s' h' => thenO o (awp P T b s' h' Q) (Q o s' h')
  | .cond c a b, s, h, Q => condA (ev s c) (awp P T a s h Q) (awp P T b s h Q)
  | .block id b, s, h, Q => awp P T b s h fun o s' h' => Q (blockO id o) s' h'
  | .loop b, s, h, Q => ∃ (I : Nat → Slots → Heap → Prop) (n : Nat), (∃ s1, Le s s1 ∧ I n s1 h) ∧ ∀ n s h, I n s h → awp P T b s h fun o s' h' => thenO o (∃ m, m < n ∧ ∃ s1, Le s' s1 ∧ I m s1 h') (Q o s' h')
  | .scope b, s, h, Q => awp P T b s h Q
  | .label _, s, h, Q => Q .normal s h
  | .exit id, s, h, Q => Q (.exit id) s h
  | .ret, s, h, Q => Q .ret s h
  | _, _, _, _ => False

/-- The slots of a call that begins. -/
def init (args : List AV) : Slots := fun i => (args[i]?).getD .any

/-- The results, where there are several: each handed on for good. -/
def awpResults (P : Program) : List ResultVar → Slots → Heap → (List AV → Slots → Heap → Prop) → Prop
  | [], s, h, K => K [] s h
  | .tmp t :: r, s, h, K => awpResults P r (esc s h (.tmp t)).2.1 (esc s h (.tmp t)).2.2 fun vs s' h' => K ((esc s h (.tmp t)).1 :: vs) s' h'
  | .cell a t :: r, s, h, K => atPlace s h (mv s (.tmp a)) fun cs => ofCells P t cs fun v => awpResults P r s h fun vs s' h' => K (v :: vs) s' h'

def res1 : AV → AV
  | .own m e sz xs => .own m e sz xs
  | x => val x

def ret1 (s : Slots) (h : Heap) (t : Nat) (Q : AV → Heap → Prop) : AV → Prop
  | .box cs => Q (.ptr h.length 0) (h ++ [.cells cs])
  | .place k o => Q (esc s h (.tmp t)).1 (esc s h (.tmp t)).2.2
  | _ => Q (res1 (tk s (.tmp t)).1) h

/-- The results but one, which is left where it is. -/
def awpResO (P : Program) : Nat → List ResultVar → Slots → Heap → (List AV → Slots → Heap → Prop) → Prop
  | _, [], s, h, K => K [] s h
  | 0, .tmp _ :: r, s, h, K => awpResults P r s h fun vs s' h' => K (.any :: vs) s' h'
  | n + 1, .tmp t :: r, s, h, K => awpResO P n r (esc s h (.tmp t)).2.1 (esc s h (.tmp t)).2.2 fun vs s' h' => K ((esc s h (.tmp t)).1 :: vs) s' h'
  | n + 1, .cell a t :: r, s, h, K => atPlace s h (mv s (.tmp a)) fun cs => ofCells P t cs fun v => awpResO P n r s h fun vs s' h' => K (v :: vs) s' h'
  | 0, .cell _ _ :: _, _, _, _ => False

def ownTup (i : Nat) (vs : List AV) (Q : AV → Prop) : AV → Prop
  | .own m e sz xs => Q (.otup i m e sz xs vs)
  | x => Q (.tup (vs.set i (val x)))

/-- What a call answers of whose results one may be a slice of its own. -/
def awpRetO (P : Program) (i : Nat) (rs : List ResultVar) (s : Slots) (h : Heap) (Q : AV → Heap → Prop) : Prop :=
  match rs[i]? with
  | some (.tmp t) => 1 < rs.length ∧ awpResO P i rs s h fun vs s' h' => ownTup i vs (fun x => Q x h') (tk s' (.tmp t)).1
  | _ => False

/-- What a call answers that ends with these slots. -/
def awpRet (P : Program) (rs : List ResultVar) (s : Slots) (h : Heap) (Q : AV → Heap → Prop) : Prop :=
  match rs with
  | [.tmp t] => ret1 s h t Q (s t)
  | [.cell a t] => atPlace s h (mv s (.tmp a)) fun cs => ofCells P t cs fun v => Q v h
  | rs => awpResults P rs s h fun vs _ h' => Q (.tup vs) h'

def dstsOk (N : Nat) : Code → Bool
  | .region _ ops _ => ops.toList.all fun o => match o.dst with | some d => decide (d < N) | none => true
  | .seq a b | .cond _ a b => dstsOk N a && dstsOk N b
  | .block _ b | .loop b | .scope b => dstsOk N b
  | _ => true

def endO (o : Out) (A : Prop) : Prop :=
  match o with
  | .exit _ => False
  | _ => A

/-- A whole function of whose results one may be a slice of its own. -/
def awpFuncO (P : Program) (T : FuncId → Option Spec) (i : Nat) (fn : Func) (args : List AV) (h : Heap) (Q : AV → Heap → Prop) : Prop :=
  match fn.body with
  | some c => awp P T c (init args) h fun o s h' => endO o (awpRetO P i fn.results.toList s h' Q)
  | none => False

/-- A whole function. -/
def awpFunc (P : Program) (T : FuncId → Option Spec) (fn : Func) (args : List AV) (h : Heap) (Q : AV → Heap → Prop) : Prop :=
  match fn.body with
  | some c => awp P T c (init args) h fun o s h' => endO o (awpRet P fn.results.toList s h' Q)
  | none => False

end Go.Vm
