/- Abstract values, and what they say of real ones: the ground of an interpreter without addresses and without draws. Nothing here speaks of one program. -/
import Derived.Laws.AppendOwn
import Derived.Orders
import Derived.Below
import Derived.WalkKit
set_option linter.unusedVariables false
set_option linter.unusedSimpArgs false
namespace Go.Vm
open Go.RowKit

/-- An abstract value: slices are lists, private variables lie in their slots. -/
inductive AV where
  | v (x : Value)
  | sl (sz : Nat) (xs : List AV)
  | own (m : Bool) (e : TypeId) (sz : Nat) (xs : List AV)
  | agg (cs : List AV)
  | tup (vs : List AV)
  | box (cs : List AV)
  | place (s off : Nat)
  | elt (s sz i off : Nat)
  | alias (s : Nat)
  | eptr (cs : List AV)
  | ptr (id off : Nat)
  | mp (id : Nat)
  | clo (f : FuncId) (caps : List AV)
  | iter (id since : Nat) (seen : List Nat) (c0 : Nat)
  | otup (i : Nat) (m : Bool) (e : TypeId) (sz : Nat) (xs : List AV) (rest : List AV)
  | part (s i : Nat)
  | osl (id off n c : Nat)
  | any

instance : Inhabited AV := ⟨.any⟩

def AV.cells : AV → List AV
  | .agg cs => cs
  | x => [x]

def flat (xs : List AV) : List AV := xs.flatMap AV.cells

/-- Values that bear no memory. -/
def plain : Value → Bool
  | .bool _ | .int _ _ | .string _ | .nilFunc | .nilIface | .pointer none | .map none | .slice none 0 0 => true
  | _ => false

def cst : Value → AV
  | .agg cs => if cs.all plain then .agg (cs.toList.map .v) else .any
  | .tuple cs => if cs.all plain then .tup (cs.toList.map .v) else .any
  | x => if plain x then .v x else .any

/-- An entry of a map, and the count at which it was laid. -/
structure Ent where
  key : Value
  val : AV
  born : Nat

/-- An object that several may write: variables behind pointers, a map (its entries, oldest first; its count). -/
inductive AObj where
  | cells (cs : List AV)
  | row (e : TypeId) (m : Nat) (cs : List AV)
  | map (es : List Ent) (clock : Nat)

abbrev Heap := List AObj

/-- What the package's variables hold that are never written: their cells. -/
def globTab : Nat → Option (List AV) := fun _ => none

structure Gh where
  pub : Nat → Nat
  n : Nat
  loc : Nat → Nat

inductive Rep (w : World) (g : Gh) : AV → Value → Prop
  | v {x : Value} (h : plain x = true) : Rep w g (.v x) x
  | nil (sz : Nat) : Rep w g (.sl sz []) (.slice none 0 0)
  | empty (sz : Nat) (a : Addr) (c : Nat) (hc : c ≤ maxLen) : Rep w g (.sl sz []) (.slice (some a) 0 c)
  | sl {sz : Nat} {xs : List AV} {b o c : Nat} (vs : Nat → Value) (hc : xs.length ≤ c) (hm : c ≤ maxLen)
      (hsz : 0 < sz) (hu : ∀ x ∈ xs, x.cells.length = sz)
      (hr : ∀ j u, (flat xs)[j]? = some u → w.cell? ⟨b, o + j, none⟩ = some (vs j) ∧ o + j < g.pub b ∧ (vs j).oneCell' = true)
      (hs : ∀ j u, (flat xs)[j]? = some u → Rep w g u (vs j)) : Rep w g (.sl sz xs) (.slice (some ⟨b, o, none⟩) xs.length c)
  | agg {cs : List AV} {vs : Array Value} (hl : vs.size = cs.length) (h1 : ∀ j, j < vs.size → (vs.getD j undef).oneCell' = true)
      (hs : ∀ j u, cs[j]? = some u → Rep w g u (vs.getD j undef)) : Rep w g (.agg cs) (.agg vs)
  | tup {cs : List AV} {vs : Array Value} (hl : vs.size = cs.length)
      (hs : ∀ j u, cs[j]? = some u → Rep w g u (vs.getD j undef)) : Rep w g (.tup cs) (.tuple vs)
  | eptr {cs : List AV} {b o : Nat} (vs : Nat → Value)
      (hr : ∀ j u, cs[j]? = some u → w.cell? ⟨b, o + j, none⟩ = some (vs j) ∧ o + j < g.pub b ∧ (vs j).oneCell' = true)
      (hs : ∀ j u, cs[j]? = some u → Rep w g u (vs j)) : Rep w g (.eptr cs) (.pointer (some ⟨b, o, none⟩))
  | ptr (id off : Nat) (h : id < g.n) : Rep w g (.ptr id off) (.pointer (some ⟨g.loc id, off, none⟩))
  | mp (id : Nat) (h : id < g.n) : Rep w g (.mp id) (.map (some (g.loc id)))
  | clo {f : FuncId} {cs : List AV} {vs : Array Value} (hl : vs.size = cs.length)
      (hs : ∀ j u, cs[j]? = some u → Rep w g u (vs.getD j undef)) : Rep w g (.clo f cs) (.func (.func f) #[] vs)
  | osl (id off n c : Nat) (h : id < g.n) (hc : n ≤ c) (hm : c ≤ maxLen) : Rep w g (.osl id off n c) (.slice (some ⟨g.loc id, off, none⟩) n c)
  | any (v : Value) : Rep w g .any v

/-- What stays as it was: all cells that were published, and how many were; where objects lie. -/
structure Keeps (w : World) (g : Gh) (w' : World) (g' : Gh) : Prop where
  pub : ∀ b, g.pub b ≤ g'.pub b
  cell : ∀ b j v, j < g.pub b → w.cell? ⟨b, j, none⟩ = some v → w'.cell? ⟨b, j, none⟩ = some v
  n : g.n ≤ g'.n
  loc : ∀ i, i < g.n → g'.loc i = g.loc i

theorem Keeps.refl (w : World) (g : Gh) : Keeps w g w g := ⟨fun _ => Nat.le_refl _, fun _ _ _ _ h => h, Nat.le_refl _, fun _ _ => rfl⟩
theorem Keeps.trans {w1 w2 w3 : World} {g1 g2 g3 : Gh} (h : Keeps w1 g1 w2 g2) (k : Keeps w2 g2 w3 g3) : Keeps w1 g1 w3 g3 :=
  ⟨fun b => Nat.le_trans (h.pub b) (k.pub b), fun b j v hj hv => k.cell b j v (Nat.lt_of_lt_of_le hj (h.pub b)) (h.cell b j v hj hv),
    Nat.le_trans h.n k.n, fun i hi => (k.loc i (Nat.lt_of_lt_of_le hi h.n)).trans (h.loc i hi)⟩

theorem Rep.keep {w w' : World} {g g' : Gh} (hk : Keeps w g w' g') {x : AV} {v : Value} (h : Rep w g x v) : Rep w' g' x v := by
  induction h with
  | v h => exact .v h
  | nil sz => exact .nil sz
  | empty sz a c hc => exact .empty sz a c hc
  | sl vs hc hm hsz hu hr _ ih =>
    exact .sl vs hc hm hsz hu (fun j u hj => ⟨hk.cell _ _ _ (hr j u hj).2.1 (hr j u hj).1, Nat.lt_of_lt_of_le (hr j u hj).2.1 (hk.pub _), (hr j u hj).2.2⟩) ih
  | agg hl h1 _ ih => exact .agg hl h1 ih
  | tup hl _ ih => exact .tup hl ih
  | eptr vs hr _ ih => exact .eptr vs (fun j u hj => ⟨hk.cell _ _ _ (hr j u hj).2.1 (hr j u hj).1, Nat.lt_of_lt_of_le (hr j u hj).2.1 (hk.pub _), (hr j u hj).2.2⟩) ih
  | ptr id off h => rw [← hk.loc id h]; exact .ptr id off (Nat.lt_of_lt_of_le h hk.n)
  | mp id h => rw [← hk.loc id h]; exact .mp id (Nat.lt_of_lt_of_le h hk.n)
  | clo hl _ ih => exact .clo hl ih
  | osl id off n c h hc hm => rw [← hk.loc id h]; exact .osl id off n c (Nat.lt_of_lt_of_le h hk.n) hc hm
  | any v => exact .any v

/-- A slice that nobody else holds: nil, or at the head of a block of the call's own. 'm': nothing of it was published. -/
def OwnRep (w : World) (g : Gh) (B : Nat) (m : Bool) (e : TypeId) (sz : Nat) (xs : List AV) (v : Value) : Prop :=
  0 < sz ∧ (∀ x ∈ xs, x.cells.length = sz) ∧ ∃ vs : List Value, w.ownsRow B e sz v xs.length vs ∧ (∀ u ∈ vs, u.oneCell' = true) ∧
    (∀ j u, (flat xs)[j]? = some u → Rep w g u (vs.getD j undef)) ∧
    ∀ b, v.ownBlock = some b → g.pub b ≤ if m then 0 else xs.length * sz

/-- A row of cells at the head of a block. -/
def RowAt (w : World) (g : Gh) (cs : List AV) (b : Nat) : Prop :=
  ∃ vs e, w.heap[b]? = some (.cells vs e (0, 0)) ∧ cs.length ≤ vs.size ∧ g.pub b = 0 ∧
    (∀ j, j < cs.length → (vs.getD j undef).oneCell' = true) ∧ ∀ j u, cs[j]? = some u → Rep w g u (vs.getD j undef)

/-- .. of which the type and the size are known. -/
def RowE (w : World) (g : Gh) (e m : Nat) (cs : List AV) (b : Nat) : Prop :=
  ∃ vs, w.heap[b]? = some (.cells vs e (0, 0)) ∧ vs.size = m ∧ cs.length ≤ m ∧ g.pub b = 0 ∧
    (∀ j, j < cs.length → (vs.getD j undef).oneCell' = true) ∧ ∀ j u, cs[j]? = some u → Rep w g u (vs.getD j undef)
theorem RowE.at {w : World} {g : Gh} {e m : Nat} {cs : List AV} {b : Nat} (h : RowE w g e m cs b) : RowAt w g cs b := by
  obtain ⟨vs, h1, h2, h3, h4, h5, h6⟩ := h
  exact ⟨vs, e, h1, by omega, h4, h5, h6⟩

/-- A variable of the call's own. -/
def BoxRep (w : World) (g : Gh) (B : Nat) (cs : List AV) (v : Value) : Prop :=
  ∃ b, v = .pointer (some ⟨b, 0, none⟩) ∧ B ≤ b ∧ RowAt w g cs b

/-- An iterator over a map. -/
def IterRep (w : World) (g : Gh) (B id since : Nat) (seen : List Nat) (c0 : Nat) (v : Value) : Prop :=
  ∃ b, v = .pointer (some ⟨b, 0, none⟩) ∧ B ≤ b ∧ w.heap[b]? = some (.mapIter (some (g.loc id)) since seen.toArray c0) ∧ g.pub b = 0 ∧ id < g.n ∧ since ≤ c0

/-- A tuple of which one part is a slice that nobody else holds. -/
def OTupRep (w : World) (g : Gh) (B i : Nat) (m : Bool) (e sz : Nat) (xs rest : List AV) (v : Value) : Prop :=
  ∃ us : Array Value, v = .tuple us ∧ us.size = rest.length ∧ (∀ j u, rest[j]? = some u → Rep w g u (us.getD j undef)) ∧ OwnRep w g B m e sz xs (us.getD i undef)

def slotRep (w : World) (g : Gh) (B : Nat) (tm : Nat → Value) : AV → Value → Prop
  | .own m e sz xs, v => OwnRep w g B m e sz xs v
  | .box cs, v => BoxRep w g B cs v
  | .iter id since seen c0, v => IterRep w g B id since seen c0 v
  | .alias s, v => v = tm s
  | .otup i m e sz xs rest, v => OTupRep w g B i m e sz xs rest v
  | .part s i, v => ∃ us, tm s = .tuple us ∧ v = us.getD i undef
  | .place s o, v => ∃ b, tm s = .pointer (some ⟨b, 0, none⟩) ∧ v = .pointer (some ⟨b, o, none⟩)
  | .elt s sz i o, v => ∃ b c n, tm s = .slice (some ⟨b, 0, none⟩) n c ∧ v = .pointer (some ⟨b, i * sz + o, none⟩)
  | x, v => Rep w g x v

/-- The block that a slot holds for itself. -/
def privB : AV → Value → Option Nat
  | .own .., v => v.ownBlock
  | .box _, .pointer (some a) => some a.block
  | .iter .., .pointer (some a) => some a.block
  | .otup i .., .tuple us => (us.getD i undef).ownBlock
  | _, _ => none

abbrev Slots := Nat → AV

def set (s : Slots) (d : Nat) (x : AV) : Slots := fun i => if i = d then x else s i
def killed (d : Nat) : AV → AV
  | .alias s => if s = d then .any else .alias s
  | .place s o => if s = d then .any else .place s o
  | .elt s sz i o => if s = d then .any else .elt s sz i o
  | .part s i => if s = d then .any else .part s i
  | x => x
/-- A slot gets a new value: what pointed to it points to nothing that is known. -/
def put (s : Slots) (d : Nat) (x : AV) : Slots := fun i => if i = d then killed d x else killed d (s i)

def ObjRep (w : World) (g : Gh) : AObj → Nat → Prop
  | .cells cs, b => RowAt w g cs b
  | .row e m cs, b => RowE w g e m cs b
  | .map es clock, b => g.pub b = 0 ∧ ∃ en, w.heap[b]? = some (.map en clock) ∧ en.size = es.length ∧
      ∀ (j : Nat) (u : Ent), es[j]? = some u → ∃ q, en[j]? = some q ∧ q.key = u.key ∧ q.born = u.born ∧ plain u.key = true ∧ Rep w g u.val q.val

structure HeapRep (w : World) (g : Gh) (h : Heap) : Prop where
  n : h.length = g.n
  lt : ∀ i, i < g.n → g.loc i < w.heap.size
  inj : ∀ i j, i < g.n → j < g.n → g.loc i = g.loc j → i = j
  obj : ∀ i o, h[i]? = some o → ObjRep w g o (g.loc i)

/-- Blocks that are no object's stay as they were. -/
structure Frame (w : World) (g : Gh) (w' : World) : Prop where
  os : w'.os = w.os
  tape : w'.tape = w.tape
  output : w'.output = w.output
  size : w.heap.size ≤ w'.heap.size
  block : ∀ k, k < w.heap.size → (∀ i, i < g.n → g.loc i ≠ k) → w'.heap[k]? = w.heap[k]?


/-- The package's variables hold what they should. -/
def LaidG (w : World) (g : Gh) : Prop := ∀ i cs, globTab i = some cs → Rep w g (.eptr cs) (.pointer (some ⟨i, 0, none⟩))

/-- A world on the way, and its ghost. -/
structure Hst where
  w : World
  g : Gh

/-- The frame of a call: its slots, the objects, and what may have changed since it was entered (w0, g0); what was published at H is kept. -/
structure R (H : Hst) (w0 : World) (g0 : Gh) (s : Slots) (h : Heap) (g : Gh) (a : Act) (w : World) : Prop where
  defers : a.defers = []
  slots : ∀ i, slotRep w g w0.heap.size (fun i => a.tmps.getD i undef) (s i) (a.tmps.getD i undef)
  apart : ∀ i j b, privB (s i) (a.tmps.getD i undef) = some b → privB (s j) (a.tmps.getD j undef) = some b → i = j
  sep : ∀ i b, privB (s i) (a.tmps.getD i undef) = some b → ∀ k, k < g.n → g.loc k ≠ b
  heap : HeapRep w g h
  frame : Frame w0 g0 w
  n0 : g0.n ≤ g.n
  loc0 : ∀ i, i < g0.n → g.loc i = g0.loc i
  old : ∀ b, b < w0.heap.size → g.pub b = g0.pub b
  loc1 : ∀ i, i < g.n → g0.n ≤ i → w0.heap.size ≤ g.loc i
  fresh : ∀ b, w.heap.size ≤ b → g.pub b = 0
  laid : LaidG w g
  kept : Keeps H.w H.g w g

/-- What a call may be told: from what it is given, and the objects, to what it answers, and the objects then. -/
abbrev Spec := List AV → Heap → (AV → Heap → Prop) → Prop

def ResRep (w : World) (g : Gh) (B : Nat) : AV → Value → Prop
  | .own m e sz xs, v => OwnRep w g B m e sz xs v ∧ ∀ b, v.ownBlock = some b → ∀ k, k < g.n → g.loc k ≠ b
  | .otup i m e sz xs rest, v => OTupRep w g B i m e sz xs rest v ∧ ∀ b, privB (.otup i m e sz xs rest) v = some b → ∀ k, k < g.n → g.loc k ≠ b
  | x, v => Rep w g x v

/-- A function of the program's own text. -/
def Callable (P : Program) (f : FuncId) : Prop := ∃ fn, P.funcs[f]? = some fn ∧ fn.body.isNone = false ∧ (fn.name == "runtime.NumGoroutine") = false

/-- A function does as it is told. -/
def Does (P : Program) (f : FuncId) (S : Spec) : Prop :=
  Callable P f ∧ ∀ args h Q, S args h Q → ∀ (w : World) (g : Gh) (vs : Array Value), vs.size = args.length → (∀ j u, args[j]? = some u → Rep w g u (vs.getD j undef)) →
    HeapRep w g h → (∀ b, w.heap.size ≤ b → g.pub b = 0) → LaidG w g →
    Calls P f vs w fun e w' => ∃ r h' g' v, Q r h' ∧ e = .returned v ∧ ResRep w' g' w.heap.size r v ∧ HeapRep w' g' h' ∧ Frame w g w' ∧
      g.n ≤ g'.n ∧ (∀ i, i < g.n → g'.loc i = g.loc i) ∧ (∀ b, b < w.heap.size → g'.pub b = g.pub b) ∧ (∀ i, i < g'.n → g.n ≤ i → w.heap.size ≤ g'.loc i) ∧
      (∀ b, w'.heap.size ≤ b → g'.pub b = 0)

end Go.Vm
