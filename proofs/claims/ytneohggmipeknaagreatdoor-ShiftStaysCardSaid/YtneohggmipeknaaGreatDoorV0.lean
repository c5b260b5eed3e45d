/- An interpreter over abstract values, and that it is sound. -/
import Derived.Laws.AppendOwn
import Derived.Orders
import Derived.Below
import Derived.WalkKit
import Derived.MapKept
import Derived.Great.FillDense
import Derived.Deep.AppendSrc
import Derived.Laws.MakeOwn
open List renaming getD_eq_getElem?_getD → zIa, getElem?_eq_getElem → zJa, getElem?_append_right → zKa, getElem?_append_left → zLa, getElem?_eq_none → zNa, eq_nil_of_length_eq_zero → zQa, getElem?_drop → zRa, getElem?_take → zUa, length_append → zVa, flatMap_cons → zYa, getElem?_cons_zero → zMb, append_assoc → zNb, getElem?_cons_succ → zPb, getElem_mem → zQb, length_take → zRb, mem_cons_self → zSb, length_set → zTb, getElem?_map → zUb, mem_cons_of_mem → zVb, mem_of_mem_take → zWb, replicate → zXb
open Nat renaming lt_or_ge → zMa, le_refl → zPa, lt_of_lt_of_le → zSa, le_trans → zXa, add_mul → zIb, zero_le → zKb, mul_le_mul_right → zLb, zero_add → zOb
open Option renaming map_some → zOa, map_none → zTa, bind_eq_some_iff → zWa, any_eq_true → zJb
set_option linter.unusedVariables false
set_option linter.unusedSimpArgs false
namespace Go.Vm
open Go.RowKit
inductive AV where
 | v (x : Value)
 | sl (sz : Nat) (xs : List AV)
 | own (m : Bool) (e : TypeId) (sz : Nat) (xs : List AV)
 | agg (cs : List AV)
 | tup (vs : List AV)
 | box (cs : List AV)
 | place (s off : Nat)
 | elt (s sz i off : Nat)
 | alias (s : Nat)
 | eptr (cs : List AV)
 | ptr (id off : Nat)
 | mp (id : Nat)
 | clo (f : FuncId) (caps : List AV)
 | iter (id since : Nat) (seen : List Nat) (c0 : Nat)
 | otup (i : Nat) (m : Bool) (e : TypeId) (sz : Nat) (xs : List AV) (rest : List AV)
 | part (s i : Nat)
 | osl (id off n c : Nat)
 | any
instance : Inhabited AV := ⟨.any⟩
def AV.cells : AV → List AV
 | .agg cs => cs
 | x => [x]
def flat (xs : List AV) : List AV := xs.flatMap AV.cells
def plain : Value → Bool
 | .bool _ | .int _ _ | .string _ | .nilFunc | .nilIface | .pointer none | .map none | .slice none 0 0 => true
 | _ => false
def cst : Value → AV
 | .agg cs => if cs.all plain then .agg (cs.toList.map .v) else .any
 | .tuple cs => if cs.all plain then .tup (cs.toList.map .v) else .any
 | x => if plain x then .v x else .any
structure Ent where
 key : Value
 val : AV
 born : Nat
inductive AObj where
 | cells (cs : List AV)
 | row (e : TypeId) (m : Nat) (cs : List AV)
 | map (es : List Ent) (clock : Nat)
abbrev Heap := List AObj
def globTab : Nat → Option (List AV) := fun _ => none
structure Gh where
 pub : Nat → Nat
 n : Nat
 loc : Nat → Nat
inductive Rep (w : World) (g : Gh) : AV → Value → Prop
 | v {x : Value} (h : plain x = true) : Rep w g (.v x) x
 | nil (sz : Nat) : Rep w g (.sl sz []) (.slice none 0 0)
 | empty (sz : Nat) (a : Addr) (c : Nat) (hc : c ≤ maxLen) : Rep w g (.sl sz []) (.slice (some a) 0 c)
 | sl {sz : Nat} {xs : List AV} {b o c : Nat} (vs : Nat → Value) (hc : xs.length ≤ c) (hm : c ≤ maxLen)
     (hsz : 0 < sz) (hu : ∀ x ∈ xs, x.cells.length = sz)
     (hr : ∀ j u, (flat xs)[j]? = some u → w.cell? ⟨b, o + j, none⟩ = some (vs j) ∧ o + j < g.pub b ∧ (vs j).oneCell' = true)
     (hs : ∀ j u, (flat xs)[j]? = some u → Rep w g u (vs j)) : Rep w g (.sl sz xs) (.slice (some ⟨b, o, none⟩) xs.length c)
 | agg {cs : List AV} {vs : Array Value} (hl : vs.size = cs.length) (h1 : ∀ j, j < vs.size → (vs.getD j undef).oneCell' = true)
     (hs : ∀ j u, cs[j]? = some u → Rep w g u (vs.getD j undef)) : Rep w g (.agg cs) (.agg vs)
 | tup {cs : List AV} {vs : Array Value} (hl : vs.size = cs.length)
     (hs : ∀ j u, cs[j]? = some u → Rep w g u (vs.getD j undef)) : Rep w g (.tup cs) (.tuple vs)
 | eptr {cs : List AV} {b o : Nat} (vs : Nat → Value)
     (hr : ∀ j u, cs[j]? = some u → w.cell? ⟨b, o + j, none⟩ = some (vs j) ∧ o + j < g.pub b ∧ (vs j).oneCell' = true)
     (hs : ∀ j u, cs[j]? = some u → Rep w g u (vs j)) : Rep w g (.eptr cs) (.pointer (some ⟨b, o, none⟩))
 | ptr (id off : Nat) (h : id < g.n) : Rep w g (.ptr id off) (.pointer (some ⟨g.loc id, off, none⟩))
 | mp (id : Nat) (h : id < g.n) : Rep w g (.mp id) (.map (some (g.loc id)))
 | clo {f : FuncId} {cs : List AV} {vs : Array Value} (hl : vs.size = cs.length)
     (hs : ∀ j u, cs[j]? = some u → Rep w g u (vs.getD j undef)) : Rep w g (.clo f cs) (.func (.func f) #[] vs)
 | osl (id off n c : Nat) (h : id < g.n) (hc : n ≤ c) (hm : c ≤ maxLen) : Rep w g (.osl id off n c) (.slice (some ⟨g.loc id, off, none⟩) n c)
 | any (v : Value) : Rep w g .any v
structure Keeps (w : World) (g : Gh) (w' : World) (g' : Gh) : Prop where
 pub : ∀ b, g.pub b ≤ g'.pub b
 cell : ∀ b j v, j < g.pub b → w.cell? ⟨b, j, none⟩ = some v → w'.cell? ⟨b, j, none⟩ = some v
 n : g.n ≤ g'.n
 loc : ∀ i, i < g.n → g'.loc i = g.loc i
theorem Keeps.refl (w : World) (g : Gh) : Keeps w g w g := ⟨fun _ => zPa _, fun _ _ _ _ h => h, zPa _, fun _ _ => rfl⟩
theorem Keeps.trans {w1 w2 w3 : World} {g1 g2 g3 : Gh} (h : Keeps w1 g1 w2 g2) (k : Keeps w2 g2 w3 g3) : Keeps w1 g1 w3 g3 :=
 ⟨fun b => zXa (h.pub b) (k.pub b), fun b j v hj hv => k.cell b j v (zSa hj (h.pub b)) (h.cell b j v hj hv),
   zXa h.n k.n, fun i hi => (k.loc i (zSa hi h.n)).trans (h.loc i hi)⟩
theorem Rep.keep {w w' : World} {g g' : Gh} (hk : Keeps w g w' g') {x : AV} {v : Value} (h : Rep w g x v) : Rep w' g' x v := by
 induction h with
 | v h => exact .v h
 | nil sz => exact .nil sz
 | empty sz a c hc => exact .empty sz a c hc
 | sl vs hc hm hsz hu hr _ ih =>
   exact .sl vs hc hm hsz hu (fun j u hj => ⟨hk.cell _ _ _ (hr j u hj).2.1 (hr j u hj).1, zSa (hr j u hj).2.1 (hk.pub _), (hr j u hj).2.2⟩) ih
 | agg hl h1 _ ih => exact .agg hl h1 ih
 | tup hl _ ih => exact .tup hl ih
 | eptr vs hr _ ih => exact .eptr vs (fun j u hj => ⟨hk.cell _ _ _ (hr j u hj).2.1 (hr j u hj).1, zSa (hr j u hj).2.1 (hk.pub _), (hr j u hj).2.2⟩) ih
 | ptr id off h => rw [← hk.loc id h]; exact .ptr id off (zSa h hk.n)
 | mp id h => rw [← hk.loc id h]; exact .mp id (zSa h hk.n)
 | clo hl _ ih => exact .clo hl ih
 | osl id off n c h hc hm => rw [← hk.loc id h]; exact .osl id off n c (zSa h hk.n) hc hm
 | any v => exact .any v
def OwnRep (w : World) (g : Gh) (B : Nat) (m : Bool) (e : TypeId) (sz : Nat) (xs : List AV) (v : Value) : Prop :=
 0 < sz ∧ (∀ x ∈ xs, x.cells.length = sz) ∧ ∃ vs : List Value, w.ownsRow B e sz v xs.length vs ∧ (∀ u ∈ vs, u.oneCell' = true) ∧
   (∀ j u, (flat xs)[j]? = some u → Rep w g u (vs.getD j undef)) ∧
   ∀ b, v.ownBlock = some b → g.pub b ≤ if m then 0 else xs.length * sz
def RowAt (w : World) (g : Gh) (cs : List AV) (b : Nat) : Prop :=
 ∃ vs e, w.heap[b]? = some (.cells vs e (0, 0)) ∧ cs.length ≤ vs.size ∧ g.pub b = 0 ∧
   (∀ j, j < cs.length → (vs.getD j undef).oneCell' = true) ∧ ∀ j u, cs[j]? = some u → Rep w g u (vs.getD j undef)
def RowE (w : World) (g : Gh) (e m : Nat) (cs : List AV) (b : Nat) : Prop :=
 ∃ vs, w.heap[b]? = some (.cells vs e (0, 0)) ∧ vs.size = m ∧ cs.length ≤ m ∧ g.pub b = 0 ∧
   (∀ j, j < cs.length → (vs.getD j undef).oneCell' = true) ∧ ∀ j u, cs[j]? = some u → Rep w g u (vs.getD j undef)
theorem RowE.at {w : World} {g : Gh} {e m : Nat} {cs : List AV} {b : Nat} (h : RowE w g e m cs b) : RowAt w g cs b := by
 obtain ⟨vs, h1, h2, h3, h4, h5, h6⟩ := h
 exact ⟨vs, e, h1, by omega, h4, h5, h6⟩
def BoxRep (w : World) (g : Gh) (B : Nat) (cs : List AV) (v : Value) : Prop :=
 ∃ b, v = .pointer (some ⟨b, 0, none⟩) ∧ B ≤ b ∧ RowAt w g cs b
def IterRep (w : World) (g : Gh) (B id since : Nat) (seen : List Nat) (c0 : Nat) (v : Value) : Prop :=
 ∃ b, v = .pointer (some ⟨b, 0, none⟩) ∧ B ≤ b ∧ w.heap[b]? = some (.mapIter (some (g.loc id)) since seen.toArray c0) ∧ g.pub b = 0 ∧ id < g.n ∧ since ≤ c0
def OTupRep (w : World) (g : Gh) (B i : Nat) (m : Bool) (e sz : Nat) (xs rest : List AV) (v : Value) : Prop :=
 ∃ us : Array Value, v = .tuple us ∧ us.size = rest.length ∧ (∀ j u, rest[j]? = some u → Rep w g u (us.getD j undef)) ∧ OwnRep w g B m e sz xs (us.getD i undef)
def slotRep (w : World) (g : Gh) (B : Nat) (tm : Nat → Value) : AV → Value → Prop
 | .own m e sz xs, v => OwnRep w g B m e sz xs v
 | .box cs, v => BoxRep w g B cs v
 | .iter id since seen c0, v => IterRep w g B id since seen c0 v
 | .alias s, v => v = tm s
 | .otup i m e sz xs rest, v => OTupRep w g B i m e sz xs rest v
 | .part s i, v => ∃ us, tm s = .tuple us ∧ v = us.getD i undef
 | .place s o, v => ∃ b, tm s = .pointer (some ⟨b, 0, none⟩) ∧ v = .pointer (some ⟨b, o, none⟩)
 | .elt s sz i o, v => ∃ b c n, tm s = .slice (some ⟨b, 0, none⟩) n c ∧ v = .pointer (some ⟨b, i * sz + o, none⟩)
 | x, v => Rep w g x v
def privB : AV → Value → Option Nat
 | .own .., v => v.ownBlock
 | .box _, .pointer (some a) => some a.block
 | .iter .., .pointer (some a) => some a.block
 | .otup i .., .tuple us => (us.getD i undef).ownBlock
 | _, _ => none
abbrev Slots := Nat → AV
def set (s : Slots) (d : Nat) (x : AV) : Slots := fun i => if i = d then x else s i
def killed (d : Nat) : AV → AV
 | .alias s => if s = d then .any else .alias s
 | .place s o => if s = d then .any else .place s o
 | .elt s sz i o => if s = d then .any else .elt s sz i o
 | .part s i => if s = d then .any else .part s i
 | x => x
def put (s : Slots) (d : Nat) (x : AV) : Slots := fun i => if i = d then killed d x else killed d (s i)
def ObjRep (w : World) (g : Gh) : AObj → Nat → Prop
 | .cells cs, b => RowAt w g cs b
 | .row e m cs, b => RowE w g e m cs b
 | .map es clock, b => g.pub b = 0 ∧ ∃ en, w.heap[b]? = some (.map en clock) ∧ en.size = es.length ∧
     ∀ (j : Nat) (u : Ent), es[j]? = some u → ∃ q, en[j]? = some q ∧ q.key = u.key ∧ q.born = u.born ∧ plain u.key = true ∧ Rep w g u.val q.val
structure HeapRep (w : World) (g : Gh) (h : Heap) : Prop where
 n : h.length = g.n
 lt : ∀ i, i < g.n → g.loc i < w.heap.size
 inj : ∀ i j, i < g.n → j < g.n → g.loc i = g.loc j → i = j
 obj : ∀ i o, h[i]? = some o → ObjRep w g o (g.loc i)
structure Frame (w : World) (g : Gh) (w' : World) : Prop where
 os : w'.os = w.os
 tape : w'.tape = w.tape
 output : w'.output = w.output
 size : w.heap.size ≤ w'.heap.size
 block : ∀ k, k < w.heap.size → (∀ i, i < g.n → g.loc i ≠ k) → w'.heap[k]? = w.heap[k]?
def LaidG (w : World) (g : Gh) : Prop := ∀ i cs, globTab i = some cs → Rep w g (.eptr cs) (.pointer (some ⟨i, 0, none⟩))
structure Hst where
 w : World
 g : Gh
structure R (H : Hst) (w0 : World) (g0 : Gh) (s : Slots) (h : Heap) (g : Gh) (a : Act) (w : World) : Prop where
 defers : a.defers = []
 slots : ∀ i, slotRep w g w0.heap.size (fun i => a.tmps.getD i undef) (s i) (a.tmps.getD i undef)
 apart : ∀ i j b, privB (s i) (a.tmps.getD i undef) = some b → privB (s j) (a.tmps.getD j undef) = some b → i = j
 sep : ∀ i b, privB (s i) (a.tmps.getD i undef) = some b → ∀ k, k < g.n → g.loc k ≠ b
 heap : HeapRep w g h
 frame : Frame w0 g0 w
 n0 : g0.n ≤ g.n
 loc0 : ∀ i, i < g0.n → g.loc i = g0.loc i
 old : ∀ b, b < w0.heap.size → g.pub b = g0.pub b
 loc1 : ∀ i, i < g.n → g0.n ≤ i → w0.heap.size ≤ g.loc i
 fresh : ∀ b, w.heap.size ≤ b → g.pub b = 0
 laid : LaidG w g
 kept : Keeps H.w H.g w g
abbrev Spec := List AV → Heap → (AV → Heap → Prop) → Prop
def ResRep (w : World) (g : Gh) (B : Nat) : AV → Value → Prop
 | .own m e sz xs, v => OwnRep w g B m e sz xs v ∧ ∀ b, v.ownBlock = some b → ∀ k, k < g.n → g.loc k ≠ b
 | .otup i m e sz xs rest, v => OTupRep w g B i m e sz xs rest v ∧ ∀ b, privB (.otup i m e sz xs rest) v = some b → ∀ k, k < g.n → g.loc k ≠ b
 | x, v => Rep w g x v
def Callable (P : Program) (f : FuncId) : Prop := ∃ fn, P.funcs[f]? = some fn ∧ fn.body.isNone = false ∧ (fn.name == "runtime.NumGoroutine") = false
def Does (P : Program) (f : FuncId) (S : Spec) : Prop :=
 Callable P f ∧ ∀ args h Q, S args h Q → ∀ (w : World) (g : Gh) (vs : Array Value), vs.size = args.length → (∀ j u, args[j]? = some u → Rep w g u (vs.getD j undef)) →
   HeapRep w g h → (∀ b, w.heap.size ≤ b → g.pub b = 0) → LaidG w g →
   Calls P f vs w fun e w' => ∃ r h' g' v, Q r h' ∧ e = .returned v ∧ ResRep w' g' w.heap.size r v ∧ HeapRep w' g' h' ∧ Frame w g w' ∧
     g.n ≤ g'.n ∧ (∀ i, i < g.n → g'.loc i = g.loc i) ∧ (∀ b, b < w.heap.size → g'.pub b = g.pub b) ∧ (∀ i, i < g'.n → g.n ≤ i → w.heap.size ≤ g'.loc i) ∧
     (∀ b, w'.heap.size ≤ b → g'.pub b = 0)
end Go.Vm
namespace Go.Vm
open Go.RowKit
def ev (s : Slots) : Operand → AV
 | .tmp t => s t
 | .const v => cst v
 | .func f => .clo f []
 | .global i => match globTab i with
   | some cs => .eptr cs
   | none => .any
def val : AV → AV
 | .own .. | .box _ | .iter .. | .alias _ | .place .. | .elt .. | .otup .. | .part .. => .any
 | x => x
def mv (s : Slots) (o : Operand) : AV :=
 match o with
 | .tmp t => match s t with
   | .own .. => .alias t
   | .otup .. => .alias t
   | .box _ => .place t 0
   | .iter .. => .any
   | x => x
 | o => val (ev s o)
def tkAl (s : Slots) (k : Nat) : AV → AV × Slots
 | .own m e sz xs => (.own m e sz xs, put s k .any)
 | _ => (.any, s)
def tkPart (s : Slots) (k i : Nat) : AV → AV × Slots
 | .otup i' m e sz xs rest => if i' = i then (.own m e sz xs, put s k (.tup rest)) else (.any, s)
 | _ => (.any, s)
def tk (s : Slots) (o : Operand) : AV × Slots :=
 match o with
 | .tmp t => match s t with
   | .own m e sz xs => (.own m e sz xs, set s t .any)
   | .alias k => tkAl s k (s k)
   | .part k i => tkPart s k i (s k)
   | .otup .. => (.any, s)
   | .box _ => (.place t 0, s)
   | .iter .. => (.any, s)
   | x => (x, s)
 | o => (val (ev s o), s)
def lookAl : AV → AV
 | .own _ _ sz xs => .sl sz xs
 | _ => .any
def look (s : Slots) (x : AV) : AV :=
 match x with
 | .own _ _ sz xs => .sl sz xs
 | .alias k => lookAl (s k)
 | x => x
def frzAl (s : Slots) (k : Nat) : AV → AV × Slots
 | .own _ e sz xs => (.sl sz xs, set s k (.own false e sz xs))
 | _ => (.any, s)
def frz (s : Slots) (o : Operand) : AV × Slots :=
 match o with
 | .tmp t => match s t with
   | .own _ e sz xs => (.sl sz xs, set s t (.own false e sz xs))
   | .alias k => frzAl s k (s k)
   | x => (val x, s)
 | o => (val (ev s o), s)
def escP (s : Slots) (h : Heap) (k o : Nat) (p : AV × Slots) : AV → AV × Slots × Heap
 | .box cs => (.ptr h.length o, set s k (.ptr h.length 0), h ++ [.cells cs])
 | .ptr i o0 => (.ptr i (o0 + o), s, h)
 | _ => (p.1, p.2, h)
def escA (s : Slots) (h : Heap) (t : Nat) (p : AV × Slots) : AV → AV × Slots × Heap
 | .box cs => (.ptr h.length 0, set s t (.ptr h.length 0), h ++ [.cells cs])
 | .place k o => escP s h k o p (s k)
 | _ => (p.1, p.2, h)
def esc (s : Slots) (h : Heap) (o : Operand) : AV × Slots × Heap :=
 match o with
 | .tmp t => escA s h t (frz s o) (s t)
 | _ => ((frz s o).1, (frz s o).2, h)
def escs (s : Slots) (h : Heap) : List Operand → List AV × Slots × Heap
 | [] => ([], s, h)
 | o :: r => ((esc s h o).1 :: (escs (esc s h o).2.1 (esc s h o).2.2 r).1, (escs (esc s h o).2.1 (esc s h o).2.2 r).2)
def frzs (s : Slots) : List Operand → List AV × Slots
 | [] => ([], s)
 | o :: r => ((frz s o).1 :: (frzs (frz s o).2 r).1, (frzs (frz s o).2 r).2)
def intOp (op : BinOp) (k : IntKind) (a b : Int) : Option Value :=
 match op with
 | .add => some (.int k (k.wrap (a + b)))
 | .sub => some (.int k (k.wrap (a - b)))
 | .mul => some (.int k (k.wrap (a * b)))
 | .and => some (.int k (bits .and k a b))
 | .or => some (.int k (bits .or k a b))
 | .xor => some (.int k (bits .xor k a b))
 | .andNot => some (.int k (bits .andNot k a b))
 | .eql => some (.bool (a == b))
 | .neq => some (.bool (a != b))
 | .lss => some (.bool (decide (a < b)))
 | .leq => some (.bool (decide (a ≤ b)))
 | .gtr => some (.bool (decide (a > b)))
 | .geq => some (.bool (decide (a ≥ b)))
 | _ => none
def awpBin (P : Program) (op : BinOp) (t : TypeId) (x y : AV) (K : Value → Prop) : Prop :=
 match x, y with
 | .v (.int k a), .v (.int k' b) =>
   match op with
   | .shl => 0 ≤ b ∧ K (.int k (k.wrap (a * 2 ^ min b.toNat k.bits)))
   | .shr => 0 ≤ b ∧ K (.int k (a.fdiv (2 ^ min b.toNat k.bits)))
   | .quo => k = k' ∧ b ≠ 0 ∧ K (.int k (k.wrap (a.tdiv b)))
   | .rem => k = k' ∧ b ≠ 0 ∧ K (.int k (a.tmod b))
   | op => k = k' ∧ match intOp op k a b with
     | some v => K v
     | none => False
 | .v (.string a), .v (.string b) =>
   match op with
   | .add => a.size + b.size ≤ maxLen ∧ K (.string (a ++ b))
   | .eql => K (.bool (a.toList == b.toList))
   | .neq => K (.bool (!(a.toList == b.toList)))
   | .lss => K (.bool (Op.bytesLess a.toList b.toList))
   | .leq => K (.bool (Op.bytesLess a.toList b.toList || a.toList == b.toList))
   | .gtr => K (.bool (!(Op.bytesLess a.toList b.toList || a.toList == b.toList)))
   | .geq => K (.bool (!Op.bytesLess a.toList b.toList))
   | _ => False
 | .v (.bool a), .v (.bool b) =>
   P.underlying t = some .bool ∧ match op with
   | .eql => K (.bool (a == b))
   | .neq => K (.bool (!(a == b)))
   | _ => False
 | _, _ => False
def awpConv (P : Program) (src dst : TypeId) (x : AV) (K : AV → Prop) : Prop :=
 match x with
 | .v (.int _ n) => match P.underlying dst with
   | some (.int k) => P.underlying src ≠ none ∧ K (.v (.int k (k.wrap n)))
   | _ => False
 | _ => False
def asSl (sz : Nat) : AV → Option (List AV)
 | .sl sz' xs => if sz' = sz then some xs else none
 | .v (.slice none 0 0) => some []
 | _ => none
def elemSz (P : Program) (t : TypeId) : Option (TypeId × Nat) :=
 match P.underlying t with
 | some (.slice e) => match P.info? e with
   | some i => some (e, i.size)
   | none => none
 | _ => none
def szT (P : Program) (t : TypeId) : Option Nat := (P.info? t).map (·.size)
def ofCells (P : Program) (t : TypeId) (cs : List AV) (K : AV → Prop) : Prop :=
 match P.underlying t, szT P t with
 | some d, some n =>
   match d with
   | .struct _ | .array _ _ => n ≤ cs.length ∧ K (.agg (cs.take n))
   | _ => 0 < cs.length ∧ ∀ c, cs.head? = some c → K (val c)
 | _, _ => False
def condA (x : AV) (A B : Prop) : Prop :=
 match x with
 | .v (.bool t) => (t = true → A) ∧ (t = false → B)
 | _ => False
def awpIdx (e : Option (TypeId × Nat)) (x i : AV) (K : AV → Prop) : Prop :=
 match e with
 | some (_, sz) => match asSl sz x, i with
   | some xs, .v (.int _ n) => (0 ≤ n ∧ n < xs.length) ∧ ∀ x, xs[n.toNat]? = some x → K (.eptr x.cells)
   | _, _ => False
 | none => False
def awpExt (t : AV) (i : Nat) (K : AV → Prop) : Prop :=
 match t with
 | .tup vs => i < vs.length ∧ ∀ v, vs[i]? = some v → K (val v)
 | _ => False
def extAl (k i : Nat) (K : AV → Prop) : AV → Prop
 | .otup i' m e sz xs rest => if i' = i then K (.part k i) else i < rest.length ∧ ∀ v, rest[i]? = some v → K (val v)
 | .tup vs => awpExt (.tup vs) i K
 | _ => False
def awpExtS (s : Slots) (x : AV) (i : Nat) (K : AV → Prop) : Prop :=
 match x with
 | .alias k => extAl k i K (s k)
 | x => awpExt x i K
def objA (o : Nat) (x : Option AObj) (K : List AV → Prop) : Prop :=
 match x with
 | some (.cells cs) => K (cs.drop o)
 | some (.row _ _ cs) => K (cs.drop o)
 | _ => False
def boxA (h : Heap) (o : Nat) (x : AV) (K : List AV → Prop) : Prop :=
 match x with
 | .box cs => K (cs.drop o)
 | .eptr cs => K (cs.drop o)
 | .ptr i o0 => objA (o0 + o) h[i]? K
 | _ => False
def eltA (sz i o : Nat) (x : AV) (K : List AV → Prop) : Prop :=
 match x with
 | .own _ _ sz' xs => sz' = sz ∧ i < xs.length ∧ ∀ x, xs[i]? = some x → K (x.cells.drop o)
 | _ => False
def atPlace (s : Slots) (h : Heap) (x : AV) (K : List AV → Prop) : Prop :=
 match x with
 | .eptr cs => K cs
 | .place k o => boxA h o (s k) K
 | .ptr i o => objA o h[i]? K
 | .elt k sz i o => eltA sz i o (s k) K
 | _ => False
def lenA (d : Option TypeDesc) (x : AV) (K : AV → Prop) : Prop :=
 match x with
 | .v (.string b) => d = some .string ∧ K (.v (.int .i64 b.size))
 | .v (.slice none 0 0) => d.any (fun d => d matches .slice _) = true ∧ K (.v (.int .i64 0))
 | .sl _ xs => d.any (fun d => d matches .slice _) = true ∧ K (.v (.int .i64 xs.length))
 | .osl _ _ n _ => d.any (fun d => d matches .slice _) = true ∧ K (.v (.int .i64 n))
 | _ => False
def minA (x y : AV) (K : AV → Prop) : Prop :=
 match x, y with
 | .v (.int k x), .v (.int k' y) => k = k' ∧ K (.v (.int k (if y < x then y else x)))
 | _, _ => False
def maxA (x y : AV) (K : AV → Prop) : Prop :=
 match x, y with
 | .v (.int k x), .v (.int k' y) => k = k' ∧ K (.v (.int k (if x < y then y else x)))
 | _, _ => False
def solid : AV → Bool
 | .v _ | .sl .. | .agg _ | .eptr _ | .ptr .. | .mp _ | .clo .. => true
 | _ => false
def awpBS (P : Program) (e : Option (TypeId × Nat)) (n : Nat) (ix : List Nat) (xs : List AV) (K : AV → Prop) : Prop :=
 match e with
 | some (e, sz) => ((P.info? e).any fun i => i.zero.isSome) = true ∧ 0 < sz ∧ n * sz ≤ 16777216 ∧ ix = List.range n ∧ xs.length = n ∧ (∀ x ∈ xs, solid x = true ∧ x.cells.length = sz) ∧ K (.own true e sz xs)
 | none => False
def awpCv (P : Program) (src dst : TypeId) (p : AV × Slots) (x : AV) (s : Slots) (K : AV → Slots → Prop) : Prop :=
 match p with
 | (.own _ _ sz xs, s') => xs ≠ [] ∧ src = dst ∧ (match P.underlying dst with | some (.slice e) => P.underlying e = some (.int .u8) | _ => False) ∧ K (.sl sz xs) s'
 | _ => awpConv P src dst x fun v => K v s
def awpUn (op : UnOp) (x : AV) (K : Value → Prop) : Prop :=
 match op, x with
 | .not, .v (.bool b) => K (.bool (!b))
 | .neg, .v (.int k n) => K (.int k (k.wrap (0 - n)))
 | .xor, .v (.int k n) => K (.int k (bits .xor k (if k.signed then -1 else k.max) n))
 | _, _ => False
def fieldOf (P : Program) (t : TypeId) (f : Nat) : Option (Nat × TypeId) :=
 match P.underlying t with
 | some (.struct fs) => match fs[f]? with
   | some x => match P.info? x.type with
     | some i => if 0 < i.size then some (x.offset, x.type) else none
     | none => none
   | none => none
 | _ => none
def awpNc (x : AV) (K : AV → Prop) : Prop :=
 match x with
 | .place .. | .eptr _ | .ptr .. | .elt .. => K x
 | _ => False
def awpFa (f : Option (Nat × TypeId)) (x : AV) (K : AV → Prop) : Prop :=
 match f with
 | some (off, _) => match x with
   | .place k o => K (.place k (o + off))
   | .eptr cs => K (.eptr (cs.drop off))
   | .ptr i o => K (.ptr i (o + off))
   | .elt k sz i o => K (.elt k sz i (o + off))
   | _ => False
 | none => False
def awpField (P : Program) (f : Option (Nat × TypeId)) (x : AV) (K : AV → Prop) : Prop :=
 match f, x with
 | some (off, t), .agg cs => ofCells P t (cs.drop off) K
 | _, _ => False
def awpBox (x : AV) (K : AV → Prop) : Prop := solid x = true ∧ K (.box x.cells)
def awpAlloc (z : Option Value) (K : AV → Prop) : Prop :=
 match z with
 | some z => (plain z = true ∨ ∃ cs, z = .agg cs ∧ cs.all plain = true) ∧ K (.box (cst z).cells)
 | none => False
def putCells (cs : List AV) (o : Nat) (xs : List AV) : List AV := cs.take o ++ xs ++ cs.drop (o + xs.length)
def reCell (y : AV) (cs : List AV) : AV :=
 match y with
 | .agg _ => .agg cs
 | _ => (cs.head?).getD .any
def awpStoreE (sz i o : Nat) (ys : List AV) (x : AV) (K : AV → Prop) : Prop :=
 match x with
 | .own true e sz' xs => sz' = sz ∧ o + ys.length ≤ sz ∧ i < xs.length ∧ ∀ y, xs[i]? = some y → (reCell y (putCells y.cells o ys)).cells = putCells y.cells o ys ∧ K (.own true e sz' (xs.set i (reCell y (putCells y.cells o ys))))
 | _ => False
def awpStore (n : Option Nat) (p x : AV) (s : Slots) (h : Heap) (K : AV → Slots → Heap → Prop) : Prop :=
 solid x = true ∧ n = some x.cells.length ∧ match p with
   | .place k o => (match s k with
     | .box cs => o + x.cells.length ≤ cs.length ∧ K .any (set s k (.box (putCells cs o x.cells))) h
     | .ptr i o0 => (match h[i]? with
       | some (.cells cs) => o0 + o + x.cells.length ≤ cs.length ∧ K .any s (h.set i (.cells (putCells cs (o0 + o) x.cells)))
       | _ => False)
     | _ => False)
   | .ptr i o => (match h[i]? with
     | some (.cells cs) => o + x.cells.length ≤ cs.length ∧ K .any s (h.set i (.cells (putCells cs o x.cells)))
     | some (.row e m cs) => o + x.cells.length ≤ cs.length ∧ K .any s (h.set i (.row e m (putCells cs o x.cells)))
     | _ => False)
   | .elt k sz i o => awpStoreE sz i o x.cells (s k) fun y => K .any (set s k y) h
   | _ => False
def boundOf (d : Int) : Option AV → Option Int
 | none => some d
 | some (.v (.int _ n)) => some n
 | _ => none
def awpSlice (P : Program) (t : TypeId) (x : AV) (lo hi mx : Option AV) (K : AV → Prop) : Prop :=
 match x with
 | .sl sz xs => match elemSz P t, boundOf 0 lo, boundOf xs.length hi with
   | some (_, sz'), some l, some h => sz' = sz ∧ (0 ≤ l ∧ l ≤ h ∧ h ≤ xs.length) ∧ (match mx with
       | none => True
       | some _ => lo.isSome = true ∧ hi.isSome = true ∧ match boundOf 0 mx with | some m => h ≤ m ∧ m ≤ xs.length | none => False) ∧ K (.sl sz ((xs.take h.toNat).drop l.toNat))
   | _, _, _ => False
 | .osl id off n c => match elemSz P t, boundOf 0 lo, boundOf n hi with
   | some (_, sz), some l, some h => mx = none ∧ (0 ≤ l ∧ l ≤ h ∧ h ≤ n) ∧ ((l = 0 ∨ l < c) → K (.osl id (off + l.toNat * sz) (h.toNat - l.toNat) (c - l.toNat))) ∧ (¬ (l = 0 ∨ l < c) → K (.sl sz []))
   | _, _, _ => False
 | .v (.string b) => match boundOf 0 lo, boundOf b.size hi with
   | some l, some h => P.underlying t = some .string ∧ mx = none ∧ (0 ≤ l ∧ l ≤ h ∧ h ≤ b.size) ∧ K (.v (.string (b.extract l.toNat h.toNat)))
   | _, _ => False
 | _ => False
def elemIn (P : Program) (t : TypeId) : Option (TypeId × Nat × Nat) :=
 match P.underlying t with
 | some (.slice e) => match P.info? e with
   | some i => match i.zero with
     | some z => if z.cells.size = i.size ∧ 0 < i.size then some (e, i.size, i.bytes) else none
     | none => none
   | none => none
 | _ => none
def encB (b : UInt8) : AV := .v (.int .u8 b.toNat)
def srcOf (P : Program) (tx : TypeId) (sz : Nat) (y : AV) (K : List AV → Prop) : Prop :=
 match y with
 | .sl sz' ys => sz' = sz ∧ ((P.underlying tx).any fun d => d matches .slice _) = true ∧ K ys
 | .v (.slice none 0 0) => ((P.underlying tx).any fun d => d matches .slice _) = true ∧ K []
 | .v (.string b) => sz = 1 ∧ P.underlying tx = some .string ∧ K (b.data.toList.map encB)
 | _ => False
def appTo (p : AV × Slots) (e sz : Nat) (K : Bool → List AV → Slots → Prop) : Prop :=
 match p with
 | (.own m e' sz' xs, s') => e' = e ∧ sz' = sz ∧ K m xs s'
 | (.v (.slice none 0 0), s') => K true [] s'
 | _ => False
def awpAppend (P : Program) (t tx : TypeId) (p : AV × Slots) (y : Slots → AV) (K : AV → Slots → Prop) : Prop :=
 match elemIn P t with
 | some (e, sz, bs) => appTo p e sz fun m xs s' => srcOf P tx sz (y s') fun ys =>
     (∀ c ∈ ys, c.cells.length = sz) ∧ (xs.length + ys.length) * (bs + 1) ≤ 140737488355328 ∧ K (.own m e sz (xs ++ ys)) s'
 | none => False
def awpMake (P : Program) (t : TypeId) (l c : AV) (K : AV → Prop) : Prop :=
 match elemIn P t, l, c with
 | some (e, sz, bs), .v (.int _ n), .v (.int _ c) => (0 ≤ n ∧ n ≤ c ∧ c ≤ 9223372036854775807 ∧ c * bs ≤ 140737488355328) ∧ ∀ z, (P.info? e).bind (·.zero) = some z → (plain z = true ∨ ∃ cs, z = .agg cs ∧ cs.all plain = true) ∧ K (.own true e sz (zXb n.toNat (cst z)))
 | _, _, _ => False
def awpBuiltin (P : Program) (b : Builtin) (ts : Array TypeId) (os : List Operand) (s : Slots) (h : Heap) (K : AV → Slots → Heap → Prop) : Prop :=
 match b, os with
 | .len, [o] => lenA ((ts[0]?).bind P.underlying) (look s (ev s o)) fun v => K v s h
 | .max, [a, b] => maxA (ev s a) (ev s b) fun v => K v s h
 | .min, [a, b] => minA (ev s a) (ev s b) fun v => K v s h
 | .max, [a, b, c] => maxA (ev s a) (ev s b) fun v => maxA v (ev s c) fun v => K v s h
 | .min, [a, b, c] => minA (ev s a) (ev s b) fun v => minA v (ev s c) fun v => K v s h
 | _, _ => False
def bytesT (P : Program) (t : TypeId) : Bool :=
 match P.underlying t with
 | some (.slice e) => (match P.underlying e with | some (.int .u8) => true | _ => false)
 | _ => false
def eqK (op : BinOp) (b : Bool) (K : Value → Prop) : Prop :=
 match op with
 | .eql => K (.bool b)
 | .neq => K (.bool (!b))
 | _ => False
def nilSl (x : AV) (K : Bool → Prop) : Prop :=
 match x with
 | .v (.slice none 0 0) => K true
 | .sl _ [] => ∀ b, K b
 | .sl _ (_ :: _) => K false
 | _ => False
def nilPt (x : AV) (K : Bool → Prop) : Prop :=
 match x with
 | .v (.pointer none) => K true
 | .ptr .. => K false
 | .eptr _ => K false
 | _ => False
def nilMp (x : AV) (K : Bool → Prop) : Prop :=
 match x with
 | .v (.map none) => K true
 | .mp _ => K false
 | _ => False
def nilFn (x : AV) (K : Bool → Prop) : Prop :=
 match x with
 | .v .nilFunc => K true
 | .clo .. => K false
 | _ => False
def fitEq : TypeDesc → AV → AV → Option Bool
 | .bool, .v (.bool a), .v (.bool b) => some (a == b)
 | .int _, .v (.int k a), .v (.int k' b) => if k = k' then some (a == b) else none
 | .string, .v (.string a), .v (.string b) => some (a.toList == b.toList)
 | _, _, _ => none
def fitAll : List TypeDesc → List AV → List AV → Option Bool
 | [], [], [] => some true
 | d :: ds, a :: as, b :: bs => match fitEq d a b, fitAll ds as bs with
   | some x, some y => some (x && y)
   | _, _ => none
 | _, _, _ => none
def flatDs (P : Program) (t : TypeId) : Option (List TypeDesc) :=
 match P.underlying t with
 | some (.struct fs) => if (fs.toList.zipIdx.all fun p => p.1.name != "_" && p.1.offset == p.2 && P.plainKey p.1.type) && !P.stoodInHeld t && !P.eqGuardType P.depth t then fs.toList.mapM fun f => P.underlying f.type else none
 | _ => none
def binAgg (P : Program) (op : BinOp) (t : TypeId) (x : AV) (ds : List AV) (K : Value → Prop) : Prop :=
 match x with
 | .agg cs => ∃ ts b, flatDs P t = some ts ∧ fitAll ts cs ds = some b ∧ eqK op b K
 | _ => False
def awpBinX (P : Program) (op : BinOp) (t : TypeId) (x y : AV) (K : Value → Prop) : Prop :=
 match y with
 | .v (.slice none 0 0) => ((P.underlying t).any fun d => d matches .slice _) = true ∧ nilSl x fun b => eqK op b K
 | .v (.pointer none) => ((P.underlying t).any fun d => d matches .pointer _) = true ∧ nilPt x fun b => eqK op b K
 | .v (.map none) => ((P.underlying t).any fun d => d matches .map _ _) = true ∧ nilMp x fun b => eqK op b K
 | .v .nilFunc => ((P.underlying t).any fun d => d matches .func _ _ _) = true ∧ nilFn x fun b => eqK op b K
 | .agg ds => binAgg P op t x ds K
 | _ => awpBin P op t x y K
def awpStrOf (P : Program) (src : TypeId) (x : AV) (K : AV → Prop) : Prop :=
 match x with
 | .sl sz xs => sz = 1 ∧ bytesT P src = true ∧ ∃ l : List UInt8, xs = l.map encB ∧ K (.v (.string ⟨l.toArray⟩))
 | .v (.slice none 0 0) => bytesT P src = true ∧ K (.v (.string ⟨#[]⟩))
 | .v (.string b) => P.underlying src = some .string ∧ K (.v (.string b))
 | _ => False
def awpCvX (P : Program) (src dst : TypeId) (p : AV × Slots) (lk x : AV) (s : Slots) (K : AV → Slots → Prop) : Prop :=
 match P.underlying dst with
 | some .string => awpStrOf P src lk fun v => K v s
 | _ => match lk with
   | .v (.string b) => bytesT P dst = true ∧ P.underlying src = some .string ∧ b.size ≤ maxLen ∧ K (.sl 1 (b.data.toList.map encB)) s
   | _ => awpCv P src dst p x s K
def slotOf (s : Slots) (o : Operand) : Option Nat :=
 match o with
 | .tmp t => match s t with
   | .own .. => some t
   | .alias k => some k
   | _ => none
 | _ => none
def copyTo (k : Nat) (x y : AV) (s : Slots) (K : AV → Slots → Prop) : Prop :=
 match x, y with
 | .own true e sz xs, .sl sz' ys => sz = 1 ∧ sz' = 1 ∧ K (.v (.int .i64 (min ys.length xs.length : Nat))) (set s k (.own true e 1 (ys.take xs.length ++ xs.drop ys.length)))
 | _, _ => False
def awpCopy (P : Program) (t : TypeId) (k : Option Nat) (y : AV) (s : Slots) (K : AV → Slots → Prop) : Prop :=
 match elemSz P t, k with
 | some (_, sz), some k => sz = 1 ∧ copyTo k (s k) y s K
 | _, _ => False
def awpIndex (P : Program) (t : TypeId) (x i : AV) (K : AV → Prop) : Prop :=
 match x, i with
 | .v (.string b), .v (.int _ n) => P.underlying t = some .string ∧ (0 ≤ n ∧ n < b.size) ∧ K (.v (.int .u8 (b.data.toList.getD n.toNat 0).toNat))
 | .agg cs, .v (.int _ n) =>
   match P.underlying t with
   | some (.array len e) => (∃ k, P.underlying e = some (.int k)) ∧ (P.info? e).map (·.size) = some 1 ∧ (0 ≤ n ∧ n < len) ∧
     match cs[n.toNat]? with
     | some (.v x) => K (.v x)
     | _ => False
   | _ => False
 | _, _ => False
def arrSz (P : Program) (t : TypeId) : Option (Nat × Nat) :=
 match P.underlying t with
 | some (.array len e) => match P.info? e with
   | some i => if 0 < i.size then some (len, i.size) else none
   | none => none
 | _ => none
def awpArr (len sz : Nat) (x i : AV) (K : AV → Prop) : Prop :=
 match i with
 | .v (.int _ n) => (0 ≤ n ∧ n < len) ∧ match x with
   | .place k o => K (.place k (o + n.toNat * sz))
   | .eptr cs => K (.eptr (cs.drop (n.toNat * sz)))
   | .ptr i o => K (.ptr i (o + n.toNat * sz))
   | _ => False
 | _ => False
def awpIdxO (e : Option (TypeId × Nat)) (k : Nat) (x i : AV) (K : AV → Prop) : Prop :=
 match e, x, i with
 | some (_, sz), .own _ _ sz' xs, .v (.int _ n) => sz' = sz ∧ (0 ≤ n ∧ n < xs.length) ∧ K (.elt k sz n.toNat 0)
 | _, _, _ => False
def awpIdxL (e : Option (TypeId × Nat)) (id off n : Nat) (i : AV) (K : AV → Prop) : Prop :=
 match e, i with
 | some (_, sz), .v (.int _ q) => (0 ≤ q ∧ q < n) ∧ K (.ptr id (off + q.toNat * sz))
 | _, _ => False
def awpIdxX (s : Slots) (e : Option (TypeId × Nat)) (ar : Option (Nat × Nat)) (m x i : AV) (K : AV → Prop) : Prop :=
 match ar with
 | some (len, sz) => awpArr len sz m i K
 | none => match m with
   | .alias k => awpIdxO e k (s k) i K
   | .osl id off n _ => awpIdxL e id off n i K
   | _ => awpIdx e x i K
def keyEq : Value → Value → Bool
 | .int k a, .int k' b => decide (k = k') && a == b
 | .string a, .string b => a == b
 | .bool a, .bool b => a == b
 | _, _ => false
def mget (k : Value) (es : List Ent) : Option Ent := es.find? fun e => keyEq k e.key
def mput (k : Value) (v : AV) (clock : Nat) : List Ent → List Ent
 | [] => [⟨k, v, clock⟩]
 | e :: es => if keyEq k e.key then ⟨k, v, e.born⟩ :: es else e :: mput k v clock es
def mclk (k : Value) (es : List Ent) (clock : Nat) : Nat := if (mget k es).isSome then clock else clock + 1
def mdel (k : Value) : List Ent → List Ent
 | [] => []
 | e :: es => if keyEq k e.key then es else e :: mdel k es
def withMap (m : AV) (h : Heap) (K : List Ent → Nat → Prop) : Prop :=
 match m with
 | .v (.map none) => K [] 0
 | .mp id => match h[id]? with
   | some (.map es clock) => K es clock
   | _ => False
 | _ => False
def withObj (m : AV) (h : Heap) (K : Nat → List Ent → Nat → Prop) : Prop :=
 match m with
 | .mp id => match h[id]? with
   | some (.map es clock) => K id es clock
   | _ => False
 | _ => False
def withKey (P : Program) (t : TypeId) (k : AV) (K : TypeDesc → TypeId → Value → Prop) : Prop :=
 match P.underlying t with
 | some (.map kt et) => match P.underlying kt, k with
   | some d, .v kv => MapKept.IsKey d kv ∧ K d et kv
   | _, _ => False
 | _ => False
def lookRes (ok : Bool) (x : AV) (b : Bool) : AV := if ok then .tup [x, .v (.bool b)] else x
def awpLookup (P : Program) (t : TypeId) (m k : AV) (ok : Bool) (h : Heap) (K : AV → Prop) : Prop :=
 withKey P t k fun d et kv => withMap m h fun es _ => (∀ e ∈ es, MapKept.IsKey d e.key) ∧
   (∀ e, mget kv es = some e → K (lookRes ok e.val true)) ∧
   (mget kv es = none → match (P.info? et).bind (·.zero) with
     | some z => K (lookRes ok (cst z) false)
     | none => False)
def awpUpdate (P : Program) (t : TypeId) (m k x : AV) (h : Heap) (K : Heap → Prop) : Prop :=
 withKey P t k fun d _ kv => withObj m h fun id es clock => (∀ e ∈ es, MapKept.IsKey d e.key) ∧ K (h.set id (.map (mput kv x clock es) (mclk kv es clock)))
def awpDelete (P : Program) (t : TypeId) (m k : AV) (h : Heap) (K : Heap → Prop) : Prop :=
 withKey P t k fun d _ kv => withObj m h fun id es clock => (∀ e ∈ es, MapKept.IsKey d e.key) ∧ K (h.set id (.map (mdel kv es) clock))
def mapT (P : Program) (t : TypeId) : Bool :=
 match P.underlying t with
 | some (.map _ _) => true
 | _ => false
def awpClear (P : Program) (t : TypeId) (m : AV) (h : Heap) (K : Heap → Prop) : Prop :=
 mapT P t = true ∧ withObj m h fun id _ clock => K (h.set id (.map [] clock))
def awpClearS (P : Program) (t : TypeId) (id off n : Nat) (h : Heap) (K : Heap → Prop) : Prop :=
 match P.underlying t with
 | some (.slice e) => match (P.info? e).bind (·.zero), h[id]? with
   | some z, some (.row e' m cs) => (plain z = true ∨ ∃ zs, z = .agg zs ∧ zs.all plain = true) ∧ off + n * z.cells.size ≤ cs.length ∧ K (h.set id (.row e' m (putCells cs off (zXb (n * z.cells.size) .any))))
   | _, _ => False
 | _ => False
def awpClearX (P : Program) (t : TypeId) (m : AV) (h : Heap) (K : Heap → Prop) : Prop :=
 match m with
 | .osl id off n _ => awpClearS P t id off n h K
 | .sl _ [] => (∃ e, P.underlying t = some (.slice e)) ∧ K h
 | m => awpClear P t m h K
def awpRange (P : Program) (t : TypeId) (m : AV) (h : Heap) (K : AV → Prop) : Prop :=
 mapT P t = true ∧ withObj m h fun id _ clock => K (.iter id clock [] clock)
def leftE (es : List Ent) (seen : List Nat) : List Ent := es.filter fun e => !seen.contains e.born
def awpNext (x : AV) (s : Slots) (t : Nat) (h : Heap) (K : AV → Slots → Prop) : Prop :=
 match x with
 | .iter id since seen _ => match h[id]? with
   | some (.map es clock) => ((∀ e ∈ es, e.born < since) ∧ since ≤ clock) ∧ (leftE es seen = [] → K (.tup [.v (.bool false)]) s) ∧
       ∀ e ∈ leftE es seen, K (.tup [.v (.bool true), .v e.key, e.val]) (set s t (.iter id since (seen ++ [e.born]) clock))
   | _ => False
 | _ => False
def awpEntry (x : AV) (h : Heap) (K : AV → Prop) : Prop :=
 match x with
 | .iter id _ seen c0 => match h[id]?, seen.getLast? with
   | some (.map es clock), some b => clock = c0 ∧ (∃ e, es.find? (fun e => e.born == b) = some e) ∧ ∀ e, es.find? (fun e => e.born == b) = some e → K (.tup [.v e.key, e.val])
   | _, _ => False
 | _ => False
def tmpOf : Operand → Nat
 | .tmp t => t
 | _ => 0
def fieldsAt (P : Program) (t : TypeId) : Option (List (Nat × Nat)) :=
 match P.underlying t with
 | some (.struct fs) => fs.toList.mapM fun f => (P.info? f.type).map fun i => (f.offset, i.size)
 | some (.array len e) => (P.info? e).map fun i => (List.range len).map fun j => (j * i.size, i.size)
 | _ => none
def fillA (places : List (Nat × Nat)) (cs : List AV) : List (Nat × AV) → Option (List AV)
 | [] => some cs
 | (i, x) :: r => match places[i]? with
   | none => none
   | some (off, n) => if solid x && x.cells.length == n && decide (off + n ≤ cs.length) then fillA places (cs.take off ++ x.cells ++ cs.drop (off + n)) r else none
def awpBuild (P : Program) (t : TypeId) (parts : List (Nat × AV)) (K : AV → Prop) : Prop :=
 match fieldsAt P t, (P.info? t).bind (·.zero) with
 | some places, some (.agg zs) => zs.all plain = true ∧ match fillA places (zs.toList.map .v) parts with
   | some cs => K (.agg cs)
   | none => False
 | _, _ => False
def awpBui (P : Program) (b : Builtin) (ts : List TypeId) (tsA : Array TypeId) (os : List Operand) (s : Slots) (h : Heap) (K : AV → Slots → Heap → Prop) : Prop :=
 match b with
 | .append => match os, ts with
   | [x, y], [t, tx] => awpAppend P t tx (tk s x) (fun s' => look s' (ev s' y)) fun v s' => K v s' h
   | _, _ => False
 | .copy => match os, ts with
   | [x, y], [t, _] => awpCopy P t (slotOf s x) (look s (ev s y)) s fun v s' => K v s' h
   | _, _ => False
 | .delete => match os, ts with
   | [m, k], t :: _ => awpDelete P t (ev s m) (ev s k) h fun h' => K (.tup []) s h'
   | _, _ => False
 | .clear => match os, ts with
   | [m], [t] => awpClearX P t (ev s m) h fun h' => K (.tup []) s h'
   | _, _ => False
 | b => awpBuiltin P b tsA os s h K
mutual
inductive Ga : AV → AV → Prop
 | refl (x : AV) : Ga x x
 | any (x : AV) : Ga x .any
 | nil (sz : Nat) : Ga (.v (.slice none 0 0)) (.sl sz [])
 | agg {xs ys : List AV} (h : GaL xs ys) : Ga (.agg xs) (.agg ys)
 | tup {xs ys : List AV} (h : GaL xs ys) : Ga (.tup xs) (.tup ys)
inductive GaL : List AV → List AV → Prop
 | nil : GaL [] []
 | cons {x y : AV} {xs ys : List AV} (h : Ga x y) (t : GaL xs ys) : GaL (x :: xs) (y :: ys)
end
def awpCall (T : FuncId → Option Spec) (f : FuncId) (caps : List AV) (os : List Operand) (s : Slots) (h : Heap) (K : AV → Slots → Heap → Prop) : Prop :=
 match T f with
 | some S => ∃ as, GaL ((escs s h os).1 ++ caps) as ∧ ∃ Q0, S as (escs s h os).2.2 Q0 ∧ ∀ r h', Q0 r h' → K r (escs s h os).2.1 h'
 | none => False
def ownSlot (s : Slots) : Operand → Option Nat
 | .tmp t => match s t with
   | .own .. => some t
   | .alias k => some k
   | _ => none
 | _ => none
def inOut (e sz c id : Nat) (cs xs : List AV) (s3 : Slots) (k0 : Nat) (h2 : Heap) (K : AV → Slots → Heap → Prop) (r : AV) : Prop :=
 ∃ xs', (∀ x ∈ xs', x ∈ xs) ∧ match r with
   | .osl i off n c' => i = id ∧ off = 0 ∧ c' = c ∧ xs'.length = n ∧ cs.take (n * sz) = flat xs' ∧ K (.own true e sz xs') s3 h2
   | .tup [] => xs'.length = xs.length ∧ cs.take (xs.length * sz) = flat xs' ∧ K (.tup []) (set s3 k0 (.own true e sz xs')) h2
   | _ => False
def inNil (e sz : Nat) (s3 : Slots) (k0 : Nat) (h2 : Heap) (K : AV → Slots → Heap → Prop) (r : AV) : Prop :=
 match r with
 | .v (.slice none 0 0) => K (.own true e sz []) s3 h2
 | .tup [] => K (.tup []) (set s3 k0 (.own true e sz [])) h2
 | _ => False
def inCall (S : Spec) (as : List AV) (s3 : Slots) (h2 : Heap) (k0 : Option Nat) (K : AV → Slots → Heap → Prop) (x : AV) : Prop :=
 match x, k0 with
 | .own true e sz xs, some k0 =>
   (xs = [] → ∃ Q0, S (.v (.slice none 0 0) :: as) h2 Q0 ∧ ∀ r h', Q0 r h' → h' = h2 ∧ inNil e sz s3 k0 h2 K r) ∧
   ∀ c, xs.length ≤ c → c ≤ maxLen → ∃ Q0, S (.osl h2.length 0 xs.length c :: as) (h2 ++ [.row e (c * sz) (flat xs)]) Q0 ∧
     ∀ r h', Q0 r h' → ∃ cs, h' = h2 ++ [.row e (c * sz) cs] ∧ inOut e sz c h2.length cs xs s3 k0 h2 K r
 | _, _ => False
def awpCallI (T : FuncId → Option Spec) (f : FuncId) (caps : List AV) (os : List Operand) (s : Slots) (h : Heap) (K : AV → Slots → Heap → Prop) : Prop :=
 match T f, caps, os with
 | some S, [], o :: rest => inCall S (escs s h rest).1 (tk (escs s h rest).2.1 o).2 (escs s h rest).2.2 (ownSlot (escs s h rest).2.1 o) K (tk (escs s h rest).2.1 o).1
 | _, _, _ => False
def rowAt (K : Nat → Nat → List AV → Prop) : AV → Prop
 | .own true e sz xs => K e sz xs
 | _ => False
def awpCallG (T : FuncId → Option Spec) (f : FuncId) (caps : List AV) (os : List Operand) (s : Slots) (h : Heap) (K : AV → Slots → Heap → Prop) : Prop :=
 ∃ k j, (j = k ∨ s j = .alias k) ∧ rowAt (fun e sz xs => xs ≠ [] ∧ ∀ c, xs.length ≤ c → c ≤ maxLen → awpCall T f caps os (set (set s k (.osl h.length 0 xs.length c)) j (.osl h.length 0 xs.length c)) (h ++ [.row e (c * sz) (flat xs)]) K) (s k)
def awpCallV (T : FuncId → Option Spec) (x : AV) (os : List Operand) (s : Slots) (h : Heap) (K : AV → Slots → Heap → Prop) : Prop :=
 match x with
 | .clo f caps => awpCall T f caps os s h K ∨ awpCallI T f caps os s h K ∨ awpCallG T f caps os s h K
 | _ => False
def awpOp (P : Program) (T : FuncId → Option Spec) (o : Op) (s : Slots) (h : Heap) (K : AV → Slots → Heap → Prop) : Prop :=
 match o with
 | .move x => K (mv s x) s h
 | .assign x => K (tk s x).1 (tk s x).2 h
 | .pick c a b => condA (ev s c) (K (val (ev s a)) s h) (K (val (ev s b)) s h)
 | .binOp op t x y _ => awpBinX P op t (look s (ev s x)) (look s (ev s y)) fun v => K (.v v) s h
 | .convert src dst x => awpCvX P src dst (tk s x) (look s (ev s x)) (ev s x) s fun v s' => K v s' h
 | .buildSlice t n parts => awpBS P (elemSz P t) n (parts.toList.map (·.1)) (frzs s (parts.toList.map (·.2))).1 fun v => K v (frzs s (parts.toList.map (·.2))).2 h
 | .indexAddr t x i => awpIdxX s (elemSz P t) (arrSz P t) (mv s x) (ev s x) (ev s i) fun v => K v s h
 | .index t x i => awpIndex P t (ev s x) (ev s i) fun v => K v s h
 | .load t p => atPlace s h (mv s p) fun cs => ofCells P t cs fun v => K v s h
 | .nilCheck x => awpNc (mv s x) fun v => K v s h
 | .fieldAddr t x f => awpFa (fieldOf P t f) (mv s x) fun v => K v s h
 | .field t x f => awpField P (fieldOf P t f) (ev s x) fun v => K v s h
 | .box _ x => awpBox (frz s x).1 fun v => K v (frz s x).2 h
 | .alloc e => awpAlloc ((P.info? e).bind (·.zero)) fun v => K v s h
 | .store t p x => awpStore (szT P t) (mv s p) (esc s h x).1 (esc s h x).2.1 (esc s h x).2.2 K
 | .makeFunc (.func f) first caps => first = #[] ∧ K (.clo f (escs s h caps.toList).1) (escs s h caps.toList).2.1 (escs s h caps.toList).2.2
 | .unOp op _ x => awpUn op (ev s x) fun v => K (.v v) s h
 | .slice t x lo hi mx => awpSlice P t (frz s x).1 (lo.map (ev s)) (hi.map (ev s)) (mx.map (ev s)) fun v => K v (frz s x).2 h
 | .makeSlice t l c => awpMake P t (ev s l) (ev s c) fun v => K v s h
 | .extract t i => awpExtS s (mv s t) i fun v => K v s h
 | .call { callee := .value x, args, .. } => awpCallV T (ev s x) args.toList s h K
 | .call { callee := .builtin b, args, argTypes } => awpBui P b argTypes.toList argTypes args.toList s h K
 | .makeMap _ none => K (.mp h.length) s (h ++ [.map [] 0])
 | .lookup t m k ok => awpLookup P t (ev s m) (ev s k) ok h fun v => K v s h
 | .mapUpdate t m k x | .insert t m k x => awpUpdate P t (ev s m) (ev s k) (frz s x).1 h fun h' => K .any (frz s x).2 h'
 | .range t m => awpRange P t (ev s m) h fun v => K v s h
 | .next it false => awpNext (ev s it) s (tmpOf it) h fun v s' => K v s' h
 | .entry it => awpEntry (ev s it) h fun v => K v s h
 | .build t parts => awpBuild P t ((parts.toList.map (·.1)).zip (escs s h (parts.toList.map (·.2))).1) fun v => K v (escs s h (parts.toList.map (·.2))).2.1 (escs s h (parts.toList.map (·.2))).2.2
 | _ => False
def putD (d : Option Tmp) (s : Slots) (x : AV) : Slots :=
 match d with
 | some d => put s d x
 | none => s
def guardA (want : Bool) (d : Nat) (x : AV) (s : Slots) (A B : Slots → Prop) : Prop :=
 match x with
 | .v (.bool b) => (b = want → A (set s d (.v (.bool want)))) ∧ (b = !want → B (set s d (.v (.bool (!want)))))
 | .tup _ => B s
 | _ => False
def awpGuard (want : Bool) (d : Option Tmp) (s : Slots) (A B : Slots → Prop) : Prop :=
 match d with
 | none => False
 | some d => guardA want d (s d) s A B
def awpAt (P : Program) (T : FuncId → Option Spec) (ops : Array Oper) (o : Oper) (s : Slots) (h : Heap) (K : Slots → Heap → Prop) : Prop :=
 match o.guard with
 | none => awpOp P T o.op s h fun x s' h' => K (putD o.dst s' x) h'
 | some (j, want) => awpGuard want ((ops[j]?).bind (·.dst)) s
   (fun s => awpOp P T o.op s h fun x s' h' => K (putD o.dst s' x) h') fun s => K (putD o.dst s (.tup [])) h
def awpOps (P : Program) (T : FuncId → Option Spec) (ops : Array Oper) : List Oper → Slots → Heap → (Slots → Heap → Prop) → Prop
 | [], s, h, K => K s h
 | o :: r, s, h, K => awpAt P T ops o s h fun s' h' => awpOps P T ops r s' h' K
def isPure (P : Program) : Op → Bool
 | .move _ | .pick .. | .binOp .. | .unOp .. | .extract .. | .nilCheck _ | .fieldAddr .. | .slice .. | .indexAddr .. | .index .. => true
 | .convert src _ _ => match P.underlying src with
   | some (.int _) => true
   | _ => false
 | .call { callee := .builtin .len, .. } | .call { callee := .builtin .min, .. } | .call { callee := .builtin .max, .. } => true
 | _ => false
def isRead : Op → Bool
 | .load .. | .convert .. => true
 | _ => false
def slA : AV → Prop
 | .sl .. => True
 | _ => False
def eptrA : AV → Prop
 | .eptr _ => True
 | _ => False
def takeC (d : Option TypeDesc) (x : AV) : Prop :=
 match d with
 | some (.int _) => True
 | _ => slA x
def takeOk (P : Program) (s : Slots) (o : Op) : Prop :=
 match o with
 | .load _ p => eptrA (mv s p)
 | .convert src _ x => takeC (P.underlying src) (ev s x)
 | _ => True
def pub1 (s : Slots) (k : Nat) : AV → Slots
 | .box cs => set s k (.eptr cs)
 | .own _ _ sz xs => set s k (.sl sz xs)
 | _ => s
def pubs (s : Slots) : List Nat → Slots
 | [] => s
 | k :: ks => pubs (pub1 s k (s k)) ks
inductive Tree where
 | done
 | stop
 | take (i : Nat) (t : Tree)
 | alt (i : Nat) (t r : Tree)
def Tree.deep : Tree → Nat
 | .done | .stop => 0
 | .take _ t => t.deep + 1
 | .alt _ t r => max (t.deep + 1) r.deep
def chk (P : Program) (ops : Array Oper) : Tree → Array Bool → Option (List Nat) → Bool
 | .done, l, none => (Region.ready .any ops l).isEmpty
 | .stop, _, some [] => true
 | .take i t, l, none => (Region.ready .any ops l).contains i && Region.free .any ops l i && ((ops[i]?).any fun o => isPure P o.op || isRead o.op) && chk P ops t (l.setIfInBounds i true) none
 | .alt i t r, l, e => match e.getD (Region.ready .any ops l) with
   | j :: js => i == j && chk P ops t (l.setIfInBounds i true) none && chk P ops r l (some js)
   | [] => false
 | _, _, _ => false
def grow (P : Program) (ops : Array Oper) : Nat → Array Bool → Tree
 | 0, _ => .done
 | n + 1, l => match Region.ready .any ops l with
   | [] => .done
   | [i] => .alt i (grow P ops n (l.setIfInBounds i true)) .stop
   | rs => match rs.find? fun i => Region.free .any ops l i && ((ops[i]?).any fun o => isPure P o.op) with
     | some i => .take i (grow P ops n (l.setIfInBounds i true))
     | none => rs.foldr (fun i r => .alt i (grow P ops n (l.setIfInBounds i true)) r) .stop
def awpTree (P : Program) (T : FuncId → Option Spec) (ops : Array Oper) : Tree → Slots → Heap → (Slots → Heap → Prop) → Prop
 | .done, s, h, K => K s h
 | .stop, _, _, _ => True
 | .take i t, s, h, K => match ops[i]? with
   | some o => takeOk P s o.op ∧ awpAt P T ops o s h fun s' h' => awpTree P T ops t s' h' K
   | none => False
 | .alt i t r, s, h, K => (match ops[i]? with
   | some o => awpAt P T ops o s h fun s' h' => awpTree P T ops t s' h' K
   | none => False) ∧ awpTree P T ops r s h K
def awpDraw (P : Program) (T : FuncId → Option Spec) (ops : Array Oper) (s : Slots) (h : Heap) (K : Slots → Heap → Prop) : Prop :=
 (P.follows .mixedOrders = true ∧ Region.noSelect ops = true) ∧ ∃ (ks : List Nat) (t : Tree) (C : Slots → Heap → Prop), chk P ops t (Array.replicate ops.size false) none = true ∧ t.deep ≤ ops.size ∧ awpTree P T ops t (pubs s ks) h C ∧ ∀ s h, C s h → K s h
inductive Out where
 | normal | exit (id : Nat) | ret
def thenO (o : Out) (A B : Prop) : Prop :=
 match o with
 | .normal => A
 | _ => B
def blockO (id : Nat) : Out → Out
 | .exit id' => if id' = id then .normal else .exit id'
 | o => o
inductive Fg : AV → AV → Prop
 | refl (x : AV) : Fg x x
 | any (x : AV) : Fg x .any
 | nil (m : Bool) (e sz : Nat) (h : 0 < sz) : Fg (.v (.slice none 0 0)) (.own m e sz [])
 | part (i : Nat) (m : Bool) (e sz : Nat) (xs rest : List AV) : Fg (.otup i m e sz xs rest) (.tup rest)
 | shut (e sz : Nat) (xs : List AV) : Fg (.own true e sz xs) (.own false e sz xs)
 | nils (sz : Nat) : Fg (.v (.slice none 0 0)) (.sl sz [])
def Le (s s1 : Slots) : Prop := ∀ i, Fg (s i) (s1 i)
def awp (P : Program) (T : FuncId → Option Spec) : Code → Slots → Heap → (Out → Slots → Heap → Prop) → Prop
 | .skip, s, h, Q => Q .normal s h
 | .region _ ops false, s, h, Q => awpOps P T ops ops.toList s h (Q .normal)
 | .region _ ops true, s, h, Q => awpDraw P T ops s h (Q .normal)
 | .seq a b, s, h, Q => awp P T a s h fun o s' h' => thenO o (awp P T b s' h' Q) (Q o s' h')
 | .cond c a b, s, h, Q => condA (ev s c) (awp P T a s h Q) (awp P T b s h Q)
 | .block id b, s, h, Q => awp P T b s h fun o s' h' => Q (blockO id o) s' h'
 | .loop b, s, h, Q => ∃ (I : Nat → Slots → Heap → Prop) (n : Nat), (∃ s1, Le s s1 ∧ I n s1 h) ∧ ∀ n s h, I n s h → awp P T b s h fun o s' h' => thenO o (∃ m, m < n ∧ ∃ s1, Le s' s1 ∧ I m s1 h') (Q o s' h')
 | .scope b, s, h, Q => awp P T b s h Q
 | .label _, s, h, Q => Q .normal s h
 | .exit id, s, h, Q => Q (.exit id) s h
 | .ret, s, h, Q => Q .ret s h
 | _, _, _, _ => False
def init (args : List AV) : Slots := fun i => (args[i]?).getD .any
def awpResults (P : Program) : List ResultVar → Slots → Heap → (List AV → Slots → Heap → Prop) → Prop
 | [], s, h, K => K [] s h
 | .tmp t :: r, s, h, K => awpResults P r (esc s h (.tmp t)).2.1 (esc s h (.tmp t)).2.2 fun vs s' h' => K ((esc s h (.tmp t)).1 :: vs) s' h'
 | .cell a t :: r, s, h, K => atPlace s h (mv s (.tmp a)) fun cs => ofCells P t cs fun v => awpResults P r s h fun vs s' h' => K (v :: vs) s' h'
def res1 : AV → AV
 | .own m e sz xs => .own m e sz xs
 | x => val x
def ret1 (s : Slots) (h : Heap) (t : Nat) (Q : AV → Heap → Prop) : AV → Prop
 | .box cs => Q (.ptr h.length 0) (h ++ [.cells cs])
 | .place k o => Q (esc s h (.tmp t)).1 (esc s h (.tmp t)).2.2
 | _ => Q (res1 (tk s (.tmp t)).1) h
def awpResO (P : Program) : Nat → List ResultVar → Slots → Heap → (List AV → Slots → Heap → Prop) → Prop
 | _, [], s, h, K => K [] s h
 | 0, .tmp _ :: r, s, h, K => awpResults P r s h fun vs s' h' => K (.any :: vs) s' h'
 | n + 1, .tmp t :: r, s, h, K => awpResO P n r (esc s h (.tmp t)).2.1 (esc s h (.tmp t)).2.2 fun vs s' h' => K ((esc s h (.tmp t)).1 :: vs) s' h'
 | n + 1, .cell a t :: r, s, h, K => atPlace s h (mv s (.tmp a)) fun cs => ofCells P t cs fun v => awpResO P n r s h fun vs s' h' => K (v :: vs) s' h'
 | 0, .cell _ _ :: _, _, _, _ => False
def ownTup (i : Nat) (vs : List AV) (Q : AV → Prop) : AV → Prop
 | .own m e sz xs => Q (.otup i m e sz xs vs)
 | x => Q (.tup (vs.set i (val x)))
def awpRetO (P : Program) (i : Nat) (rs : List ResultVar) (s : Slots) (h : Heap) (Q : AV → Heap → Prop) : Prop :=
 match rs[i]? with
 | some (.tmp t) => 1 < rs.length ∧ awpResO P i rs s h fun vs s' h' => ownTup i vs (fun x => Q x h') (tk s' (.tmp t)).1
 | _ => False
def awpRet (P : Program) (rs : List ResultVar) (s : Slots) (h : Heap) (Q : AV → Heap → Prop) : Prop :=
 match rs with
 | [.tmp t] => ret1 s h t Q (s t)
 | [.cell a t] => atPlace s h (mv s (.tmp a)) fun cs => ofCells P t cs fun v => Q v h
 | rs => awpResults P rs s h fun vs _ h' => Q (.tup vs) h'
def dstsOk (N : Nat) : Code → Bool
 | .region _ ops _ => ops.toList.all fun o => match o.dst with | some d => decide (d < N) | none => true
 | .seq a b | .cond _ a b => dstsOk N a && dstsOk N b
 | .block _ b | .loop b | .scope b => dstsOk N b
 | _ => true
def endO (o : Out) (A : Prop) : Prop :=
 match o with
 | .exit _ => False
 | _ => A
def awpFuncO (P : Program) (T : FuncId → Option Spec) (i : Nat) (fn : Func) (args : List AV) (h : Heap) (Q : AV → Heap → Prop) : Prop :=
 match fn.body with
 | some c => awp P T c (init args) h fun o s h' => endO o (awpRetO P i fn.results.toList s h' Q)
 | none => False
def awpFunc (P : Program) (T : FuncId → Option Spec) (fn : Func) (args : List AV) (h : Heap) (Q : AV → Heap → Prop) : Prop :=
 match fn.body with
 | some c => awp P T c (init args) h fun o s h' => endO o (awpRet P fn.results.toList s h' Q)
 | none => False
end Go.Vm
namespace Go.Vm
open Go.RowKit
abbrev tmOf (a : Act) : Nat → Value := fun i => a.tmps.getD i undef
theorem tm_put (a : Act) (d : Nat) (v : Value) (hd : d < a.tmps.size) (i : Nat) : tmOf (a.put (some d) v) i = if i = d then v else tmOf a i := by
 simp only [tmOf, Act.put]
 by_cases h : i = d
 · subst h; simp [Array.getD, hd]
 · simp only [h, if_false]
   simp only [Array.getD_eq_getD_getElem?]
   rw [Array.getElem?_setIfInBounds_ne (by omega)]
theorem privB_killed (d : Nat) (x : AV) (v : Value) : privB (killed d x) v = privB x v := by
 cases x <;> simp [killed] <;> (try split) <;> simp [privB]
theorem slotRep_killed {w : World} {g : Gh} {B d : Nat} {tm tm' : Nat → Value} {x : AV} {v : Value} (htm : ∀ i, i ≠ d → tm' i = tm i)
   (h : slotRep w g B tm x v) : slotRep w g B tm' (killed d x) v := by
 cases x <;> simp only [killed] <;> (try exact h)
 all_goals
   split
   · exact .any v
   · rename_i hne
     simp only [slotRep] at h ⊢
     rw [htm _ hne]
     exact h
theorem R.put {H : Hst} {w0 w : World} {g0 g : Gh} {s : Slots} {h : Heap} {a : Act} {d : Nat} {x : AV} {v : Value} (r : R H w0 g0 s h g a w) (hd : d < a.tmps.size)
   (hx : slotRep w g w0.heap.size (tmOf a) x v) (hp : ∀ b, privB x v = some b → (∀ i, i ≠ d → privB (s i) (tmOf a i) ≠ some b) ∧ ∀ k, k < g.n → g.loc k ≠ b) :
   R H w0 g0 (Vm.put s d x) h g (a.put (some d) v) w := by
 have htm := tm_put a d v hd
 have htm' : ∀ i, i ≠ d → tmOf (a.put (some d) v) i = tmOf a i := fun i hi => by rw [htm, if_neg hi]
 have hpr : ∀ i, privB (Vm.put s d x i) (tmOf (a.put (some d) v) i) = if i = d then privB x v else privB (s i) (tmOf a i) := by
   intro i
   by_cases hi : i = d
   · subst hi; simp only [Vm.put, if_true, privB_killed]; rw [htm, if_pos rfl]
   · simp only [Vm.put, hi, if_false, privB_killed]; rw [htm' i hi]
 refine ⟨r.defers, ?_, ?_, ?_, r.heap, r.frame, r.n0, r.loc0, r.old, r.loc1, r.fresh, r.laid, r.kept⟩
 · intro i
   show slotRep w g w0.heap.size (tmOf (a.put (some d) v)) (Vm.put s d x i) (tmOf (a.put (some d) v) i)
   by_cases hi : i = d
   · subst hi
     rw [htm, if_pos rfl]
     simp only [Vm.put, if_true]
     exact slotRep_killed htm' hx
   · rw [htm' i hi]
     simp only [Vm.put, hi, if_false]
     exact slotRep_killed htm' (r.slots i)
 · intro i j b hi hj
   have hi' : privB (Vm.put s d x i) (tmOf (a.put (some d) v) i) = some b := hi
   have hj' : privB (Vm.put s d x j) (tmOf (a.put (some d) v) j) = some b := hj
   rw [hpr] at hi' hj'
   by_cases e : i = d <;> by_cases e' : j = d
   · omega
   · rw [if_pos e] at hi'; rw [if_neg e'] at hj'; exact absurd hj' ((hp b hi').1 j e')
   · rw [if_neg e] at hi'; rw [if_pos e'] at hj'; exact absurd hi' ((hp b hj').1 i e)
   · rw [if_neg e] at hi'; rw [if_neg e'] at hj'; exact r.apart i j b hi' hj'
 · intro i b hi
   have hi' : privB (Vm.put s d x i) (tmOf (a.put (some d) v) i) = some b := hi
   rw [hpr] at hi'
   by_cases e : i = d
   · rw [if_pos e] at hi'; exact (hp b hi').2
   · rw [if_neg e] at hi'; exact r.sep i b hi'
def shared : AV → Bool
 | .own .. | .box _ | .iter .. | .alias _ | .place .. | .elt .. | .otup .. | .part .. => false
 | _ => true
theorem slotRep_of_rep {w : World} {g : Gh} {B : Nat} {tm : Nat → Value} {x : AV} {v : Value} (hs : shared x = true) (h : Rep w g x v) : slotRep w g B tm x v := by
 cases x <;> simp_all [shared, slotRep]
theorem rep_of_slotRep {w : World} {g : Gh} {B : Nat} {tm : Nat → Value} {x : AV} {v : Value} (hs : shared x = true) (h : slotRep w g B tm x v) : Rep w g x v := by
 cases x <;> simp_all [shared, slotRep]
theorem privB_shared {x : AV} {v : Value} (hs : shared x = true) : privB x v = none := by
 cases x <;> simp_all [shared, privB]
theorem shared_val (x : AV) : shared (val x) = true := by cases x <;> rfl
theorem rep_val {w : World} {g : Gh} {B : Nat} {tm : Nat → Value} {x : AV} {v : Value} (h : slotRep w g B tm x v) : Rep w g (val x) v := by
 cases x <;> first | exact h | exact .any v
theorem rep_shared {w : World} {g : Gh} {x : AV} {v : Value} (h : Rep w g x v) : shared x = true := by cases h <;> rfl
theorem R.put_rep {H : Hst} {w0 w : World} {g0 g : Gh} {s : Slots} {h : Heap} {a : Act} {d : Nat} {x : AV} {v : Value} (r : R H w0 g0 s h g a w) (hd : d < a.tmps.size)
   (hx : Rep w g x v) : R H w0 g0 (Vm.put s d x) h g (a.put (some d) v) w :=
 r.put hd (slotRep_of_rep (rep_shared hx) hx) (fun b hb => by rw [privB_shared (rep_shared hx)] at hb; cases hb)
theorem plain_oneCell {x : Value} (h : plain x = true) : x.oneCell' = true := by
 cases x <;> simp_all [plain, Value.oneCell']
theorem cst_rep (w : World) (g : Gh) (v : Value) : Rep w g (cst v) v := by
 unfold cst
 split
 · rename_i cs
   split
   · rename_i hall
     have hp : ∀ j (hj : j < cs.size), plain cs[j] = true := fun j hj => Array.all_eq_true.1 hall j hj
     refine .agg (by simp) (fun j hj => ?_) (fun j u hu => ?_)
     · simp only [Array.getD_eq_getD_getElem?, Array.getElem?_eq_getElem hj, Option.getD_some]
       exact plain_oneCell (hp j hj)
     · have hj : j < cs.size := by
         rcases zMa j cs.size with h | h
         · exact h
         · simp [Array.getElem?_eq_none h] at hu
       simp only [zUb, Array.getElem?_toList, Array.getElem?_eq_getElem hj, zOa, Option.some.injEq] at hu
       subst hu
       simp only [Array.getD_eq_getD_getElem?, Array.getElem?_eq_getElem hj, Option.getD_some]
       exact .v (hp j hj)
   · exact .any _
 · rename_i cs
   split
   · rename_i hall
     have hp : ∀ j (hj : j < cs.size), plain cs[j] = true := fun j hj => Array.all_eq_true.1 hall j hj
     refine .tup (by simp) (fun j u hu => ?_)
     have hj : j < cs.size := by
       rcases zMa j cs.size with h | h
       · exact h
       · simp [Array.getElem?_eq_none h] at hu
     simp only [zUb, Array.getElem?_toList, Array.getElem?_eq_getElem hj, zOa, Option.some.injEq] at hu
     subst hu
     simp only [Array.getD_eq_getD_getElem?, Array.getElem?_eq_getElem hj, Option.getD_some]
     exact .v (hp j hj)
   · exact .any _
 · split
   · rename_i h; exact .v h
   · exact .any _
theorem shared_cst (v : Value) : shared (cst v) = true := rep_shared (cst_rep default ⟨fun _ => 0, 0, fun _ => 0⟩ v)
theorem R.eval {H : Hst} {w0 w : World} {g0 g : Gh} {s : Slots} {h : Heap} {a : Act} (r : R H w0 g0 s h g a w) (o : Operand) :
   slotRep w g w0.heap.size (tmOf a) (ev s o) (a.eval o) := by
 cases o with
 | tmp t => exact r.slots t
 | const v => exact slotRep_of_rep (shared_cst v) (cst_rep w g v)
 | global n =>
   simp only [ev]
   cases ht : globTab n with
   | none => exact .any _
   | some cs => exact r.laid n cs ht
 | func f => exact .clo (by simp) (by simp)
theorem R.eval_val {H : Hst} {w0 w : World} {g0 g : Gh} {s : Slots} {h : Heap} {a : Act} (r : R H w0 g0 s h g a w) (o : Operand) : Rep w g (val (ev s o)) (a.eval o) := rep_val (r.eval o)
theorem R.mv {H : Hst} {w0 w : World} {g0 g : Gh} {s : Slots} {h : Heap} {a : Act} (r : R H w0 g0 s h g a w) (o : Operand) :
   slotRep w g w0.heap.size (tmOf a) (mv s o) (a.eval o) ∧ privB (mv s o) (a.eval o) = none := by
 have hv := r.eval_val o
 unfold Vm.mv
 split
 · rename_i t
   have hs := r.slots t
   split
   · exact ⟨rfl, rfl⟩
   · exact ⟨rfl, rfl⟩
   · rename_i cs he
     rw [he] at hs
     obtain ⟨b, hb, -⟩ := hs
     exact ⟨⟨b, hb, hb⟩, rfl⟩
   · exact ⟨.any _, rfl⟩
   · rename_i x h1 h1' h2 h3
     refine ⟨hs, ?_⟩
     cases hx : s t with
     | own m e sz xs => exact absurd hx (h1 m e sz xs)
     | otup i m e sz xs rest => exact absurd hx (h1' i m e sz xs rest)
     | box cs => exact absurd hx (h2 cs)
     | iter id since seen c0 => exact absurd hx (h3 id since seen c0)
     | _ => rfl
 · exact ⟨slotRep_of_rep (shared_val _) hv, privB_shared (shared_val _)⟩
end Go.Vm
namespace Go.Vm
open Go.RowKit
theorem fg_slot {w : World} {g : Gh} {B : Nat} {tm : Nat → Value} {x y : AV} {v : Value} (f : Fg x y) (h : slotRep w g B tm x v) : slotRep w g B tm y v := by
 cases f with
 | refl => exact h
 | any => exact .any v
 | nil m e sz hsz =>
   cases h with
   | v hp =>
     refine ⟨hsz, by simp, [], World.ownsRow_nil w B e sz, by simp, by simp [flat], ?_⟩
     intro b hb; simp [Value.ownBlock] at hb
 | part i m e sz xs rest =>
   obtain ⟨us, rfl, h1, h2, -⟩ := h
   exact Rep.tup h1 h2
 | shut e sz xs =>
   obtain ⟨h1, h2, vs, h3, h4, h5, h6⟩ := h
   exact ⟨h1, h2, vs, h3, h4, h5, fun b hb => zXa (h6 b hb) (zKb _)⟩
 | nils sz =>
   cases h with
   | v hp => exact .nil sz
theorem fg_priv {w : World} {g : Gh} {B : Nat} {tm : Nat → Value} {x y : AV} {v : Value} {b : Nat} (f : Fg x y) (h : slotRep w g B tm x v) (hb : privB y v = some b) : privB x v = some b := by
 cases f with
 | refl => exact hb
 | any => simp [privB] at hb
 | nil m e sz hsz =>
   cases h with
   | v hp => simp [privB, Value.ownBlock] at hb
 | part i m e sz xs rest => simp [privB] at hb
 | shut e sz xs => exact hb
 | nils sz => simp [privB] at hb
theorem R.le {H : Hst} {w0 w : World} {g0 g : Gh} {s s1 : Slots} {h : Heap} {a : Act} (r : R H w0 g0 s h g a w) (l : Le s s1) : R H w0 g0 s1 h g a w :=
 ⟨r.defers, fun i => fg_slot (l i) (r.slots i), fun i j b hi hj => r.apart i j b (fg_priv (l i) (r.slots i) hi) (fg_priv (l j) (r.slots j) hj),
   fun i b hi => r.sep i b (fg_priv (l i) (r.slots i) hi), r.heap, r.frame, r.n0, r.loc0, r.old, r.loc1, r.fresh, r.laid, r.kept⟩
theorem le_set_any (s : Slots) (t : Nat) : Le s (set s t .any) := fun i => by
 unfold set; split
 · exact .any _
 · exact .refl _
theorem fg_killed (d : Nat) (x : AV) : Fg x (killed d x) := by
 cases x <;> simp only [killed] <;> (try split) <;> first | exact .refl _ | exact .any _
theorem le_put_any (s : Slots) (t : Nat) : Le s (put s t .any) := fun i => by
 unfold put; split
 · exact .any _
 · exact fg_killed _ _
theorem le_put_fg (s : Slots) (t : Nat) (x : AV) (hx : Fg (s t) x) (hk : killed t x = x) : Le s (put s t x) := fun i => by
 unfold put; split
 · rename_i hi; subst hi; rw [hk]; exact hx
 · exact fg_killed _ _
theorem le_tk (s : Slots) (o : Operand) : Le s (tk s o).2 := by
 unfold tk
 split
 · split
   · exact le_set_any _ _
   · unfold tkAl; split
     · exact le_put_any _ _
     · exact fun i => .refl _
   · unfold tkPart; split
     · split
       · rename_i hk hi; exact le_put_fg _ _ _ (by rw [hk]; exact .part ..) rfl
       · exact fun i => .refl _
     · exact fun i => .refl _
   · exact fun i => .refl _
   · exact fun i => .refl _
   · exact fun i => .refl _
   · exact fun i => .refl _
 · exact fun i => .refl _
theorem privB_killed_none {d i : Nat} {s : Slots} {tm : Nat → Value} (h : i = d) : privB (put s d .any i) (tm i) = none := by
 subst h; simp [put, killed, privB]
theorem R.tk {H : Hst} {w0 w : World} {g0 g : Gh} {s : Slots} {h : Heap} {a : Act} (r : R H w0 g0 s h g a w) (o : Operand) :
   slotRep w g w0.heap.size (tmOf a) (tk s o).1 (a.eval o) ∧
     ∀ b, privB (tk s o).1 (a.eval o) = some b → (∀ i, privB ((tk s o).2 i) (tmOf a i) ≠ some b) ∧ ∀ k, k < g.n → g.loc k ≠ b := by
 have hv := r.eval_val o
 unfold Vm.tk
 split
 · rename_i t
   have hs := r.slots t
   split
   · rename_i m e sz xs he
     rw [he] at hs
     refine ⟨hs, fun b hb => ⟨fun i hi => ?_, fun k hk => ?_⟩⟩
     · by_cases hit : i = t
       · subst hit; simp [set, privB] at hi
       · simp only [set, hit, if_false] at hi
         exact hit (r.apart i t b hi (by rw [he]; exact hb))
     · exact r.sep t b (by rw [he]; exact hb) k hk
   · rename_i k he
     rw [he] at hs
     have hsk := r.slots k
     unfold tkAl
     split
     · rename_i m e sz xs hek
       rw [hek] at hsk
       have hev : a.eval (.tmp t) = tmOf a k := hs
       refine ⟨?_, fun b hb => ⟨fun i hi => ?_, fun j hj => ?_⟩⟩
       · rw [hev]; exact hsk
       · by_cases hik : i = k
         · rw [privB_killed_none hik] at hi; cases hi
         · simp only [Vm.put, hik, if_false, privB_killed] at hi
           exact hik (r.apart i k b hi (by rw [hek]; rw [hev] at hb; exact hb))
       · exact r.sep k b (by rw [hek]; rw [hev] at hb; exact hb) j hj
     · exact ⟨.any _, fun b hb => by simp [privB] at hb⟩
   · rename_i k j he
     rw [he] at hs
     have hsk := r.slots k
     unfold tkPart
     split
     · rename_i i' m e sz xs rest hek
       split
       · rename_i hij
         subst hij
         rw [hek] at hsk
         obtain ⟨us, hus, -, -, hown⟩ := hsk
         obtain ⟨us', hus', hv'⟩ := hs
         have : us' = us := by
           have h1 : a.tmps.getD k undef = .tuple us' := hus'
           rw [hus] at h1; cases h1; rfl
         subst this
         have hev : a.eval (.tmp t) = us'.getD i' undef := hv'
         have hpk : ∀ b, (us'.getD i' undef).ownBlock = some b → privB (s k) (tmOf a k) = some b := fun b hb => by
           rw [hek]
           show privB (.otup i' m e sz xs rest) (a.tmps.getD k undef) = some b
           rw [hus]; exact hb
         refine ⟨?_, fun b hb => ⟨fun i hi => ?_, fun j hj => ?_⟩⟩
         · rw [hev]; exact hown
         · rw [hev] at hb
           by_cases hik : i = k
           · subst hik; simp [Vm.put, killed, privB] at hi
           · simp only [Vm.put, hik, if_false, privB_killed] at hi
             exact hik (r.apart i k b hi (hpk b hb))
         · rw [hev] at hb
           exact r.sep k b (hpk b hb) j hj
       · exact ⟨.any _, fun b hb => by simp [privB] at hb⟩
     · exact ⟨.any _, fun b hb => by simp [privB] at hb⟩
   · exact ⟨.any _, fun b hb => by simp [privB] at hb⟩
   · rename_i cs he
     rw [he] at hs
     obtain ⟨b, hb, -⟩ := hs
     exact ⟨⟨b, hb, hb⟩, fun b hb => by cases hb⟩
   · exact ⟨.any _, fun b hb => by simp [privB] at hb⟩
   · rename_i h1 h2 h2' h2'' h3 h4
     refine ⟨hs, fun b hb => ?_⟩
     exfalso
     cases hx : s t with
     | own m e sz xs => exact h1 m e sz xs hx
     | box cs => exact h3 cs hx
     | iter id since seen c0 => exact h4 id since seen c0 hx
     | otup i m e sz xs rest => exact h2'' i m e sz xs rest hx
     | _ => rw [hx] at hb; simp [privB] at hb
 · exact ⟨slotRep_of_rep (shared_val _) hv, fun b hb => by rw [privB_shared (shared_val _)] at hb; cases hb⟩
def raise (g : Gh) (b n : Nat) : Gh := { g with pub := fun k => if k = b then max (g.pub b) n else g.pub k }
theorem keeps_raise (w : World) (g : Gh) (b n : Nat) : Keeps w g w (raise g b n) :=
 ⟨fun k => by simp only [raise]; split <;> simp_all <;> omega, fun _ _ _ _ h => h, zPa _, fun _ _ => rfl⟩
theorem raise_other {g : Gh} {b n k : Nat} (h : k ≠ b) : (raise g b n).pub k = g.pub k := by simp [raise, h]
theorem OwnRep.keepAt {w w' : World} {g g' : Gh} {B e sz : Nat} {m : Bool} {xs : List AV} {v : Value} (hk : Keeps w g w' g') (h : OwnRep w g B m e sz xs v)
   (hb : ∀ b, v.ownBlock = some b → w'.heap[b]? = w.heap[b]? ∧ g'.pub b = g.pub b) : OwnRep w' g' B m e sz xs v := by
 obtain ⟨h1, h2, vs, h3, h4, h5, h6⟩ := h
 refine ⟨h1, h2, vs, ?_, h4, fun j u hu => (h5 j u hu).keep hk, fun b hv => by rw [(hb b hv).2]; exact h6 b hv⟩
 refine ⟨h3.1, h3.2.imp_right ?_⟩
 rintro ⟨gb, cap, cur, rfl, a1, a2, a3⟩
 exact ⟨gb, cap, cur, rfl, a1, by rw [(hb gb rfl).1]; exact a2, a3⟩
theorem RowAt.keepAt {w w' : World} {g g' : Gh} {cs : List AV} {b : Nat} (hk : Keeps w g w' g') (h : RowAt w g cs b)
   (hb : w'.heap[b]? = w.heap[b]? ∧ g'.pub b = g.pub b) : RowAt w' g' cs b := by
 obtain ⟨vs, e, a1, a2, a3, a4, a5⟩ := h
 exact ⟨vs, e, by rw [hb.1]; exact a1, a2, by rw [hb.2]; exact a3, a4, fun j u hu => (a5 j u hu).keep hk⟩
theorem slotRep.keepAt {w w' : World} {g g' : Gh} {B : Nat} {tm : Nat → Value} {x : AV} {v : Value} (hk : Keeps w g w' g') (h : slotRep w g B tm x v)
   (hb : ∀ b, privB x v = some b → w'.heap[b]? = w.heap[b]? ∧ g'.pub b = g.pub b) : slotRep w' g' B tm x v := by
 cases x with
 | own m e sz xs => exact OwnRep.keepAt hk h hb
 | box cs =>
   obtain ⟨b, rfl, hB, hr⟩ := h
   exact ⟨b, rfl, hB, hr.keepAt hk (hb b rfl)⟩
 | iter id since seen c0 =>
   obtain ⟨b, rfl, hB, h1, h2, h3, h4⟩ := h
   refine ⟨b, rfl, hB, ?_, (hb b rfl).2.trans h2, zSa h3 hk.n, h4⟩
   rw [(hb b rfl).1, hk.loc id h3]; exact h1
 | alias k => exact h
 | part k i => exact h
 | otup i m e sz xs rest =>
   obtain ⟨us, rfl, h1, h2, h3⟩ := h
   exact ⟨us, rfl, h1, fun j u hu => (h2 j u hu).keep hk, h3.keepAt hk hb⟩
 | place k o => exact h
 | elt k sz i o => exact h
 | _ => exact Rep.keep hk h
theorem ObjRep.keepAt {w w' : World} {g g' : Gh} {o : AObj} {b : Nat} (hk : Keeps w g w' g') (h : ObjRep w g o b)
   (hb : w'.heap[b]? = w.heap[b]? ∧ g'.pub b = g.pub b) : ObjRep w' g' o b := by
 cases o with
 | cells cs => exact RowAt.keepAt hk h hb
 | row e m cs =>
   obtain ⟨vs, a1, a2, a3, a4, a5, a6⟩ := h
   exact ⟨vs, by rw [hb.1]; exact a1, a2, a3, by rw [hb.2]; exact a4, a5, fun j u hu => (a6 j u hu).keep hk⟩
 | map es clock =>
   obtain ⟨a0, en, a1, a2, a3⟩ := h
   refine ⟨by rw [hb.2]; exact a0, en, by rw [hb.1]; exact a1, a2, fun j u hu => ?_⟩
   obtain ⟨q, q1, q2, q3, q4, q5⟩ := a3 j u hu
   exact ⟨q, q1, q2, q3, q4, q5.keep hk⟩
theorem R.world {H : Hst} {w0 w w' : World} {g0 g g' : Gh} {s : Slots} {h : Heap} {a : Act} (r : R H w0 g0 s h g a w) (hk : Keeps w g w' g') (hn : g'.n = g.n)
   (hpriv : ∀ i b, privB (s i) (tmOf a i) = some b → w'.heap[b]? = w.heap[b]? ∧ g'.pub b = g.pub b)
   (hobj : ∀ i, i < g.n → w'.heap[g.loc i]? = w.heap[g.loc i]? ∧ g'.pub (g.loc i) = g.pub (g.loc i))
   (hf : Frame w0 g0 w') (hsz : w.heap.size ≤ w'.heap.size) (hold : ∀ b, b < w0.heap.size → g'.pub b = g.pub b) (hfr : ∀ b, w'.heap.size ≤ b → g'.pub b = 0) :
   R H w0 g0 s h g' a w' := by
 refine ⟨r.defers, fun i => (r.slots i).keepAt hk (hpriv i), r.apart, fun i b hb k hk' => ?_, ?_, hf, by rw [hn]; exact r.n0, fun i hi => ?_, fun b hb => (hold b hb).trans (r.old b hb), fun i hi h0 => ?_, hfr, fun i cs hi => (r.laid i cs hi).keep hk, r.kept.trans hk⟩
 · rw [hk.loc k (hn ▸ hk')]; exact r.sep i b hb k (hn ▸ hk')
 · refine ⟨by rw [hn]; exact r.heap.n, fun i hi => ?_, fun i j hi hj e => ?_, fun i o ho => ?_⟩
   · rw [hk.loc i (hn ▸ hi)]; exact zSa (r.heap.lt i (hn ▸ hi)) hsz
   · rw [hk.loc i (hn ▸ hi), hk.loc j (hn ▸ hj)] at e; exact r.heap.inj i j (hn ▸ hi) (hn ▸ hj) e
   · have hi : i < g.n := by
       rw [← r.heap.n]
       rcases zMa i h.length with h' | h'
       · exact h'
       · simp [zNa h'] at ho
     rw [hk.loc i hi]
     exact (r.heap.obj i o ho).keepAt hk (hobj i hi)
 · rw [hk.loc i (zSa hi r.n0)]; exact r.loc0 i hi
 · rw [hk.loc i (hn ▸ hi)]; exact r.loc1 i (hn ▸ hi) h0
theorem flat_length {xs : List AV} {sz : Nat} (h : ∀ x ∈ xs, x.cells.length = sz) : (flat xs).length = xs.length * sz := by
 induction xs with
 | nil => simp [flat]
 | cons x xs ih =>
   simp only [flat, zYa, zVa, List.length_cons] at ih ⊢
   rw [ih fun y hy => h y (zVb _ hy), h x (zSb ..), zIb]
   omega
theorem ownsRow_cell {w : World} {B e sz : Nat} {v : Value} {n : Nat} {vs : List Value} {b c k : Nat} (h : w.ownsRow B e sz v n vs) (hv : v = .slice (some ⟨b, 0, none⟩) k c) :
   ∀ j, j < vs.length → w.cell? ⟨b, j, none⟩ = some (vs.getD j undef) := by
 intro j hj
 rcases h.2 with ⟨rfl, -⟩ | ⟨gb, cap, cur, rfl, -, a2, a3, a4, a5, a6⟩
 · cases hv
 · injection hv with h1 h2 h3
   injection h1 with h1
   injection h1 with h1
   subst h1
   rw [cell_of_row w gb j cur e (0, 0) a2]
   have h2 : (cur.toList.take (n * sz))[j]? = some (vs.getD j undef) := by
     rw [a6]; simp [zIa, zJa hj]
   rw [zUa] at h2
   split at h2
   · simpa using h2
   · cases h2
theorem own_publish {H : Hst} {w0 w : World} {g0 g : Gh} {s : Slots} {h : Heap} {a : Act} (r : R H w0 g0 s h g a w) {t : Nat} {m : Bool} {e sz : Nat} {xs : List AV} (he : s t = .own m e sz xs) :
   ∃ g', R H w0 g0 (set s t (.own false e sz xs)) h g' a w ∧ Keeps w g w g' ∧ Rep w g' (.sl sz xs) (tmOf a t) ∧ g'.n = g.n := by
 have hs := r.slots t
 rw [he] at hs
 obtain ⟨h1, h2, vs, h3, h4, h5, h6⟩ := hs
 have hl := h3.1
 rcases h3.2 with ⟨hv, hn⟩ | ⟨gb, cap, cur, hv, a1, a2, a3, a4, a5, a6⟩
 · have hx : xs = [] := zQa hn
   subst hx
   refine ⟨g, r.le fun i => ?_, Keeps.refl w g, ?_, rfl⟩
   · unfold set; split
     · rename_i hi; subst hi; rw [he]; cases m
       · exact .refl _
       · exact .shut e sz []
     · exact .refl _
   · show Rep w g (.sl sz []) (a.tmps.getD t undef)
     rw [hv]; exact .nil sz
 · have hb : privB (s t) (tmOf a t) = some gb := by rw [he]; show Value.ownBlock (a.tmps.getD t undef) = _; rw [hv]; rfl
   have hlt : gb < w.heap.size := by
     rcases zMa gb w.heap.size with h | h
     · exact h
     · simp [Array.getElem?_eq_none h] at a2
   have hk := keeps_raise w g gb (xs.length * sz)
   have hpub : (raise g gb (xs.length * sz)).pub gb = xs.length * sz := by
     have := h6 gb (by rw [hv]; rfl)
     simp only [raise, if_true]
     cases m <;> simp at this <;> omega
   have hxl := flat_length h2
   have hrest : ∀ i, i ≠ t → ∀ b, privB (s i) (tmOf a i) = some b → w.heap[b]? = w.heap[b]? ∧ (raise g gb (xs.length * sz)).pub b = g.pub b := fun i hi b hb' =>
     ⟨rfl, raise_other fun e => hi (r.apart i t gb (e ▸ hb') hb)⟩
   refine ⟨raise g gb (xs.length * sz), ?_, hk, ?_, rfl⟩
   · refine ⟨r.defers, fun i => ?_, fun i j b hi hj => ?_, fun i b hi => ?_, ?_, r.frame, r.n0, r.loc0, fun b hb' => ?_, r.loc1, fun b hb' => ?_, fun i cs hi => (r.laid i cs hi).keep hk, r.kept.trans hk⟩
     · by_cases hi : i = t
       · subst hi
         simp only [set, if_true]
         refine ⟨h1, h2, vs, h3, h4, fun j u hu => (h5 j u hu).keep hk, fun b hb' => ?_⟩
         rw [hv] at hb'; simp only [Value.ownBlock, Option.some.injEq] at hb'; subst hb'
         simp only [Bool.false_eq_true, if_false]; omega
       · simp only [set, hi, if_false]
         exact (r.slots i).keepAt hk (hrest i hi)
     · have e1 : ∀ i, privB (set s t (.own false e sz xs) i) (a.tmps.getD i undef) = privB (s i) (a.tmps.getD i undef) := by
         intro i; unfold set; split
         · rename_i hi; subst hi; rw [he]; rfl
         · rfl
       rw [e1] at hi hj
       exact r.apart i j b hi hj
     · have e1 : privB (set s t (.own false e sz xs) i) (a.tmps.getD i undef) = privB (s i) (a.tmps.getD i undef) := by
         unfold set; split
         · rename_i hi; subst hi; rw [he]; rfl
         · rfl
       rw [e1] at hi
       exact r.sep i b hi
     · refine ⟨r.heap.n, r.heap.lt, r.heap.inj, fun i o ho => (r.heap.obj i o ho).keepAt hk ⟨rfl, raise_other ?_⟩⟩
       have hi : i < g.n := by
         rw [← r.heap.n]
         rcases zMa i h.length with h' | h'
         · exact h'
         · simp [zNa h'] at ho
       exact r.sep t gb hb i hi
     · rw [raise_other (by omega)]; exact r.old b hb'
     · rw [raise_other (by omega)]; exact r.fresh b hb'
   · show Rep w _ (.sl sz xs) (a.tmps.getD t undef)
     rw [hv]
     refine .sl (fun j => vs.getD j undef) a3 a4 h1 h2 (fun j u hu => ?_) (fun j u hu => (h5 j u hu).keep hk)
     have hj : j < xs.length * sz := by
       rw [← hxl]
       rcases zMa j (flat xs).length with h' | h'
       · exact h'
       · simp [zNa h'] at hu
     refine ⟨?_, by rw [hpub]; omega, ?_⟩
     · rw [zOb]
       exact ownsRow_cell h3 hv j (by omega)
     · apply h4
       rw [zIa, zJa (by omega)]
       exact zQb _
theorem R.frz {H : Hst} {w0 w : World} {g0 g : Gh} {s : Slots} {h : Heap} {a : Act} (r : R H w0 g0 s h g a w) (o : Operand) :
   ∃ g', R H w0 g0 (frz s o).2 h g' a w ∧ Keeps w g w g' ∧ Rep w g' (frz s o).1 (a.eval o) ∧ g'.n = g.n := by
 have hv := r.eval_val o
 unfold Vm.frz
 split
 · rename_i t
   have hs := r.slots t
   split
   · rename_i m e sz xs he
     exact own_publish r he
   · rename_i k he
     rw [he] at hs
     have hev : a.eval (.tmp t) = tmOf a k := hs
     unfold frzAl
     split
     · rename_i m e sz xs hek
       rw [hev]
       exact own_publish r hek
     · exact ⟨g, r, Keeps.refl w g, .any _, rfl⟩
   · exact ⟨g, r, Keeps.refl w g, hv, rfl⟩
 · exact ⟨g, r, Keeps.refl w g, hv, rfl⟩
theorem R.frzs {H : Hst} {w0 w : World} {g0 : Gh} {h : Heap} {a : Act} : ∀ (os : List Operand) {g : Gh} {s : Slots}, R H w0 g0 s h g a w →
   ∃ g', R H w0 g0 (frzs s os).2 h g' a w ∧ Keeps w g w g' ∧ (frzs s os).1.length = os.length ∧ g'.n = g.n ∧ ∀ j u, (frzs s os).1[j]? = some u → Rep w g' u ((os.map a.eval).getD j undef)
 | [], g, s, r => ⟨g, r, Keeps.refl w g, rfl, rfl, fun j u hu => by simp [Vm.frzs] at hu⟩
 | o :: os, g, s, r => by
   obtain ⟨g1, r1, k1, p1, n1⟩ := r.frz o
   obtain ⟨g2, r2, k2, l2, n2, p2⟩ := R.frzs os r1
   refine ⟨g2, r2, k1.trans k2, by simp [Vm.frzs, l2], n2.trans n1, fun j u hu => ?_⟩
   cases j with
   | zero =>
     simp only [Vm.frzs, zMb, Option.some.injEq] at hu
     subst hu
     simpa using p1.keep k2
   | succ j =>
     simp only [Vm.frzs, zPb] at hu
     simpa using p2 j u hu
end Go.Vm
namespace Go.Vm
open Go.RowKit
section
variable {P : Program} {H : Hst} {w0 w : World} {g0 g : Gh} {s : Slots} {h : Heap} {a : Act} {o : Oper} {K : AV → Slots → Heap → Prop} {Q : Exit → Act → World → Prop}
def Aft (N : Nat) (H : Hst) (w0 : World) (g0 : Gh) (o : Oper) (K : AV → Slots → Heap → Prop) : Act → World → Prop := fun a' w' =>
 ∃ x s' h' g', K x s' h' ∧ R H w0 g0 (putD o.dst s' x) h' g' a' w' ∧ a'.tmps.size = N
theorem size_put (a : Act) (d : Option Tmp) (v : Value) : (a.put d v).tmps.size = a.tmps.size := by
 unfold Act.put; split <;> simp
theorem aft_value {N : Nat} {x : AV} {v : Value} (r : R H w0 g0 s h g a w) (hN : a.tmps.size = N) (hd : ∀ d, o.dst = some d → d < N)
   (hrun : (execOp a.eval o).run P w = .ok (.value v) w) (hx : slotRep w g w0.heap.size (tmOf a) x v)
   (hp : ∀ b, privB x v = some b → (∀ i, privB (s i) (tmOf a i) ≠ some b) ∧ ∀ k, k < g.n → g.loc k ≠ b) (hK : K x s h) :
   o.wp P a w (Aft N H w0 g0 o K) Q := by
 unfold Oper.wp
 rw [hrun, Oper.upon_value]
 refine ⟨x, s, h, g, hK, ?_, by rw [size_put]; exact hN⟩
 cases ho : o.dst with
 | none => exact r
 | some d => exact r.put (by rw [hN]; exact hd d ho) hx fun b hb => ⟨fun i _ => (hp b hb).1 i, (hp b hb).2⟩
theorem aft_rep {N : Nat} {x : AV} {v : Value} (r : R H w0 g0 s h g a w) (hN : a.tmps.size = N) (hd : ∀ d, o.dst = some d → d < N)
   (hrun : (execOp a.eval o).run P w = .ok (.value v) w) (hx : Rep w g x v) (hK : K x s h) : o.wp P a w (Aft N H w0 g0 o K) Q :=
 aft_value r hN hd hrun (slotRep_of_rep (rep_shared hx) hx) (fun b hb => by rw [privB_shared (rep_shared hx)] at hb; cases hb) hK
theorem rep_v {w : World} {g : Gh} {x v : Value} (h : Rep w g (.v x) v) : v = x ∧ plain x = true := by
 cases h with | v h => exact ⟨rfl, h⟩
theorem R.look (r : R H w0 g0 s h g a w) (o : Operand) : 
   match Vm.look s (ev s o) with
   | .sl _ xs => ∃ b n c, a.eval o = .slice b n c ∧ n = xs.length ∧ n ≤ maxLen
   | .osl _ _ m _ => ∃ b n c, a.eval o = .slice b n c ∧ n = m ∧ n ≤ maxLen
   | .v x => a.eval o = x ∧ plain x = true
   | _ => True := by
 have hv := r.eval o
 have own : ∀ (m : Bool) (e sz : Nat) (xs : List AV) (v : Value), OwnRep w g w0.heap.size m e sz xs v → ∃ b n c, v = .slice b n c ∧ n = xs.length ∧ n ≤ maxLen := by
   rintro m e sz xs v ⟨-, -, vs, ⟨-, h3⟩, -⟩
   rcases h3 with ⟨rfl, h0⟩ | ⟨gb, cap, cur, rfl, -, -, a3, a4, -⟩
   · exact ⟨_, _, _, rfl, h0.symm, zKb _⟩
   · exact ⟨_, _, _, rfl, rfl, zXa a3 a4⟩
 cases hx : ev s o with
 | own m e sz xs => rw [hx] at hv; exact own m e sz xs _ hv
 | alias k =>
   rw [hx] at hv
   have hk := r.slots k
   cases hsk : s k with
   | own m e sz xs =>
     rw [hsk] at hk
     simp only [Vm.look, hsk, lookAl]
     rw [show a.eval o = tmOf a k from hv]
     exact own m e sz xs _ hk
   | _ => simp only [Vm.look, hsk, lookAl]
 | v y =>
   rw [hx] at hv
   exact rep_v hv
 | sl sz xs =>
   rw [hx] at hv
   generalize a.eval o = v at hv
   cases hv with
   | nil => exact ⟨_, _, _, rfl, rfl, zKb _⟩
   | empty => exact ⟨_, _, _, rfl, rfl, zKb _⟩
   | sl vs hc hm => exact ⟨_, _, _, rfl, rfl, zXa hc hm⟩
 | osl id off n c =>
   rw [hx] at hv
   have hv' : Rep w g (.osl id off n c) (a.eval o) := hv
   generalize a.eval o = v at hv'
   cases hv' with
   | osl _ _ _ _ _ hc hm => exact ⟨_, _, _, rfl, rfl, zXa hc hm⟩
 | _ => trivial
theorem sound_move {N : Nat} {x : Operand} (ho : o.op = .move x) (r : R H w0 g0 s h g a w) (hN : a.tmps.size = N) (hd : ∀ d, o.dst = some d → d < N)
   (hK : K (mv s x) s h) : o.wp P a w (Aft N H w0 g0 o K) Q := by
 obtain ⟨h1, h2⟩ := r.mv x
 exact aft_value r hN hd (by simp [execOp, ho]) h1 (fun b hb => by rw [h2] at hb; cases hb) hK
theorem sound_assign {N : Nat} {x : Operand} (ho : o.op = .assign x) (r : R H w0 g0 s h g a w) (hN : a.tmps.size = N) (hd : ∀ d, o.dst = some d → d < N)
   (hK : K (tk s x).1 (tk s x).2 h) : o.wp P a w (Aft N H w0 g0 o K) Q := by
 obtain ⟨h1, h2⟩ := r.tk x
 exact aft_value (r.le (le_tk s x)) hN hd (by simp [execOp, ho]) h1 h2 hK
theorem sound_pick {N : Nat} {c x y : Operand} {t : Bool} (ho : o.op = .pick c x y) (r : R H w0 g0 s h g a w) (hN : a.tmps.size = N) (hd : ∀ d, o.dst = some d → d < N)
   (hc : ev s c = .v (.bool t)) (ht : t = true → K (val (ev s x)) s h) (hf : t = false → K (val (ev s y)) s h) : o.wp P a w (Aft N H w0 g0 o K) Q := by
 have he := r.eval c
 rw [hc] at he
 have hec : a.eval c = .bool t := (rep_v he).1
 cases t with
 | true => exact aft_rep r hN hd (by simp [execOp, ho, hec, asBool]) (r.eval_val x) (ht rfl)
 | false => exact aft_rep r hN hd (by simp [execOp, ho, hec, asBool]) (r.eval_val y) (hf rfl)
theorem run_eqGuard_int (op : BinOp) (t : TypeId) (x y : Operand) (k : IntKind) (i : Int) (v : Value) : (eqGuard op t x y (.int k i) v).run P w = .ok () w := by cases op <;> rfl
theorem run_eqGuard_string (op : BinOp) (t : TypeId) (x y : Operand) (i : ByteArray) (v : Value) : (eqGuard op t x y (.string i) v).run P w = .ok () w := by cases op <;> rfl
theorem run_eqGuard_bool (op : BinOp) (t : TypeId) (x y : Operand) (i : Bool) (v : Value) : (eqGuard op t x y (.bool i) v).run P w = .ok () w := by cases op <;> rfl
theorem run_equalIn_bool (d : Nat) (t : TypeId) (ht : P.underlying t = some .bool) (i j : Bool) : (Op.equalIn (d + 1) t (.bool i) (.bool j)).run P w = .ok (i == j) w := by
 simp [Op.equalIn, run_underlying ht]
theorem run_equal_bool (t : TypeId) (ht : P.underlying t = some .bool) (i j : Bool) : (Op.equal t (.bool i) (.bool j)).run P w = .ok (i == j) w := run_equalIn_bool 9999 t ht i j
theorem sound_conv {N : Nat} {t t' : TypeId} {x : Operand} (ho : o.op = .convert t t' x) (r : R H w0 g0 s h g a w) (hN : a.tmps.size = N) (hd : ∀ d, o.dst = some d → d < N)
   (hK : awpConv P t t' (ev s x) fun v => K v s h) : o.wp P a w (Aft N H w0 g0 o K) Q := by
 have hx := r.eval x
 unfold awpConv at hK
 split at hK
 · rename_i k n he
   rw [he] at hx
   have hex : a.eval x = .int k n := (rep_v hx).1
   split at hK
   · rename_i k' hu
     obtain ⟨hsrc, hK⟩ := hK
     obtain ⟨ds, hds⟩ := Option.ne_none_iff_exists'.1 hsrc
     refine aft_rep r hN hd ?_ (.v rfl) hK
     simp [execOp, ho, hex, convert, run_underlying hds, run_underlying hu, Conv.intToInt]
   · exact hK.elim
 · exact hK.elim
end
end Go.Vm
namespace Go.Vm
open Go.RowKit
section
variable {P : Program} {H : Hst} {w0 w : World} {g0 g : Gh} {s : Slots} {h : Heap} {a : Act} {o : Oper} {K : AV → Slots → Heap → Prop} {Q : Exit → Act → World → Prop}
theorem run_max_three (w : World) (ts : Array TypeId) (t : TypeId) (k k' k'' : IntKind) (x y z : Int) : (Builtin.max_ ts t #[.int k x, .int k' y, .int k'' z]).run P w = .ok (.int k (if (if x < y then y else x) < z then z else (if x < y then y else x))) w := by
 simp [Builtin.max_, Builtin.max2]
theorem run_min_three (w : World) (ts : Array TypeId) (t : TypeId) (k k' k'' : IntKind) (x y z : Int) : (Builtin.min_ ts t #[.int k x, .int k' y, .int k'' z]).run P w = .ok (.int k (if z < (if y < x then y else x) then z else (if y < x then y else x))) w := by
 simp [Builtin.min_, Builtin.min2]
theorem elemSz_spec {t : TypeId} {e sz : Nat} (h : elemSz P t = some (e, sz)) : P.underlying t = some (.slice e) ∧ ∃ i, P.info? e = some i ∧ i.size = sz := by
 unfold elemSz at h
 split at h
 · rename_i e' hu
   split at h
   · rename_i i hi
     simp only [Option.some.injEq, Prod.mk.injEq] at h
     obtain ⟨rfl, rfl⟩ := h
     exact ⟨hu, i, hi, rfl⟩
   · cases h
 · cases h
theorem run_sizeOf {t : TypeId} {i : TypeInfo} (h : P.info? t = some i) : (sizeOf t).run P w = .ok i.size w := by
 simp [sizeOf, typeInfo, h]
theorem flat_get {xs : List AV} {sz : Nat} (hu : ∀ x ∈ xs, x.cells.length = sz) {i : Nat} {x : AV} (hx : xs[i]? = some x) (j : Nat) (hj : j < sz) :
   (flat xs)[i * sz + j]? = x.cells[j]? := by
 induction xs generalizing i with
 | nil => simp at hx
 | cons y ys ih =>
   have hy := hu y (zSb ..)
   cases i with
   | zero =>
     simp only [zMb, Option.some.injEq] at hx
     subst hx
     simp only [flat, zYa, Nat.zero_mul, zOb]
     rw [zLa (by omega)]
   | succ i =>
     simp only [zPb] at hx
     simp only [flat, zYa]
     have e : (i + 1) * sz + j = y.cells.length + (i * sz + j) := by rw [hy, zIb]; omega
     rw [e, zKa (by omega)]
     simp only [Nat.add_sub_cancel_left]
     exact ih (fun z hz => hu z (zVb _ hz)) hx
theorem rep_elem {sz : Nat} {xs : List AV} {v : Value} (hr : Rep w g (.sl sz xs) v) {i : Nat} {x : AV} (hx : xs[i]? = some x) :
   ∃ b o c, v = .slice (some ⟨b, o, none⟩) xs.length c ∧ Rep w g (.eptr x.cells) (.pointer (some ⟨b, o + i * sz, none⟩)) ∧ x.cells.length = sz ∧ i < xs.length := by
 have hi : i < xs.length := by
   rcases zMa i xs.length with h | h
   · exact h
   · simp [zNa h] at hx
 cases hr with
 | nil => simp at hi
 | empty => simp at hi
 | @sl _ _ b o c vs hc hm hsz hu hr hs =>
   have hxl := hu x (List.mem_of_getElem? hx)
   have hj : ∀ j u, x.cells[j]? = some u → (flat xs)[i * sz + j]? = some u := fun j u hju => by
     have hlt : j < sz := by
       rcases zMa j x.cells.length with h | h
       · omega
       · simp [zNa h] at hju
     rw [flat_get hu hx j hlt]; exact hju
   refine ⟨b, o, c, rfl, .eptr (fun j => vs (i * sz + j)) (fun j u hju => ?_) (fun j u hju => hs _ _ (hj j u hju)), hxl, hi⟩
   have := hr _ _ (hj j u hju)
   rw [show o + i * sz + j = o + (i * sz + j) by omega]
   exact this
theorem asSl_rep {sz : Nat} {x : AV} {xs : List AV} {v : Value} (h : asSl sz x = some xs) (hr : Rep w g x v) : Rep w g (.sl sz xs) v := by
 unfold asSl at h
 split at h
 · split at h
   · rename_i e; simp only [Option.some.injEq] at h; subst e; subst h; exact hr
   · cases h
 · simp only [Option.some.injEq] at h
   subst h
   rw [(rep_v hr).1]
   exact .nil sz
 · cases h
theorem shared_asSl {sz : Nat} {x : AV} {xs : List AV} (h : asSl sz x = some xs) : shared x = true := by
 unfold asSl at h
 split at h <;> first | rfl | cases h
theorem run_loadCells_of {b o : Nat} {vs : Nat → Value} : ∀ (n i : Nat) (acc : Array Value), (∀ j, j < n → w.cell? ⟨b, o + (i + j), none⟩ = some (vs (i + j))) →
   (loadCellsFrom ⟨b, o, none⟩ i n acc).run P w = .ok (acc ++ ((List.range n).map fun j => vs (i + j)).toArray) w
 | 0, i, acc, _ => by simp [loadCellsFrom]
 | n + 1, i, acc, hc => by
   have h0 := hc 0 (by omega)
   simp only [Nat.add_zero] at h0
   have hadd : (⟨b, o, none⟩ : Addr).add i = ⟨b, o + i, none⟩ := by
     unfold Addr.add; split
     · simp_all
     · rfl
   have hl : (load ⟨b, o + i, none⟩).run P w = .ok (vs i) w := by simp [load, Sem.run, h0]
   have ih := run_loadCells_of n (i + 1) (acc.push (vs i)) (fun j hj => by have := hc (j + 1) (by omega); rw [show i + 1 + j = i + (j + 1) by omega]; exact this)
   simp only [loadCellsFrom, Sem.run_bind, hadd, hl, Result.andThen_ok, ih]
   congr 1
   rw [List.range_succ_eq_map]
   simp only [List.map_cons, List.map_map, Nat.add_zero]
   apply Array.ext'
   simp only [Array.toList_append, Array.toList_push, zNb, List.singleton_append]
   congr 2
   apply List.map_congr_left
   intro j _
   simp only [Function.comp_apply]
   congr 1
   omega
theorem load_cells {t : TypeId} {cs : List AV} {b off : Nat} {vs : Nat → Value} {KV : AV → Prop}
   (hr : ∀ j u, cs[j]? = some u → w.cell? ⟨b, off + j, none⟩ = some (vs j) ∧ (vs j).oneCell' = true) (hs : ∀ j u, cs[j]? = some u → Rep w g u (vs j))
   (hK : ofCells P t cs KV) : ∃ x v, (loadVar t ⟨b, off, none⟩).run P w = .ok v w ∧ Rep w g x v ∧ KV x := by
 unfold ofCells at hK
 split at hK
 · rename_i d n hu hn
   have hn' : ∃ i, P.info? t = some i ∧ i.size = n := by
     unfold szT at hn
     cases hi : P.info? t with
     | none => simp [hi] at hn
     | some i => simp [hi] at hn; exact ⟨i, rfl, hn⟩
   obtain ⟨i, hi, rfl⟩ := hn'
   have agg : i.size ≤ cs.length ∧ KV (.agg (cs.take i.size)) → (isAgg t).run P w = .ok true w → ∃ x v, (loadVar t ⟨b, off, none⟩).run P w = .ok v w ∧ Rep w g x v ∧ KV x := by
     rintro ⟨hl, hK⟩ ha
     have hlc := run_loadCells_of (P := P) (w := w) (b := b) (o := off) (vs := vs) i.size 0 #[] (fun j hj => by
       simpa using (hr j _ (zJa (by omega))).1)
     refine ⟨_, .agg ((List.range i.size).map fun j => vs (0 + j)).toArray, ?_, ?_, hK⟩
     · simp only [loadVar, Sem.run_bind, ha, Result.andThen_ok, if_true, run_sizeOf hi, loadCells, hlc]
       simp
     · refine .agg (by simp; omega) (fun j hj => ?_) (fun j u hu => ?_)
       · simp at hj
         have hj' : j < cs.length := by omega
         have := (hr j _ (zJa hj')).2
         simpa [Array.getD, hj] using this
       · rw [zUa] at hu
         split at hu
         · rename_i hj
           simpa [Array.getD, hj] using hs j u hu
         · cases hu
   split at hK
   · exact agg hK (by simp [isAgg, run_underlying hu])
   · exact agg hK (by simp [isAgg, run_underlying hu])
   · rename_i h1 h2
     have ha : (isAgg t).run P w = .ok false w := by
       unfold isAgg
       simp only [Sem.run_bind, run_underlying hu, Result.andThen_ok]
       rfl
     cases cs with
     | nil => exact absurd hK.1 (by simp)
     | cons c cs =>
       have h0 := hr 0 c rfl
       simp only [Nat.add_zero] at h0
       refine ⟨val c, vs 0, ?_, ?_, hK.2 c rfl⟩
       · simp [loadVar, ha, load, Sem.run, h0.1]
       · have := hs 0 c rfl
         cases c <;> first | exact this | exact .any _
 · exact hK.elim
theorem row_load {t : TypeId} {cs : List AV} {b off : Nat} {KV : AV → Prop} (hrow : RowAt w g cs b) (hK : ofCells P t (cs.drop off) KV) :
   ∃ y u, (loadVar t ⟨b, off, none⟩).run P w = .ok u w ∧ Rep w g y u ∧ KV y := by
 obtain ⟨vs, e, a1, a2, a3, a4, a5⟩ := hrow
 exact load_cells (P := P) (w := w) (g := g) (b := b) (off := off) (vs := fun j => vs.getD (off + j) undef) (fun j u hu => by
   rw [zRa] at hu
   have hlt : off + j < cs.length := by
     rcases zMa (off + j) cs.length with h | h
     · exact h
     · simp [zNa h] at hu
   refine ⟨?_, a4 _ (by omega)⟩
   rw [cell_of_row w b _ vs e (0, 0) a1]
   simp [Array.getD, zSa hlt a2]) (fun j u hu => by rw [zRa] at hu; exact a5 _ _ hu) hK
theorem atPlace_load {t : TypeId} {x : AV} {v : Value} {KV : AV → Prop} (r : R H w0 g0 s h g a w) (hx : slotRep w g w0.heap.size (tmOf a) x v)
   (hK : atPlace s h x fun cs => ofCells P t cs KV) : ∃ ad y u, v = .pointer (some ad) ∧ (loadVar t ad).run P w = .ok u w ∧ Rep w g y u ∧ KV y := by
 unfold atPlace at hK
 split at hK
 · cases hx with
   | @eptr _ b off vs hr hs =>
     obtain ⟨y, u, h1, h2, h3⟩ := load_cells (fun j u hu => ⟨(hr j u hu).1, (hr j u hu).2.2⟩) hs hK
     exact ⟨_, y, u, rfl, h1, h2, h3⟩
 · rename_i k off
   obtain ⟨b, hb, rfl⟩ := hx
   have hk := r.slots k
   unfold boxA at hK
   split at hK
   · rename_i cs hsk
     rw [hsk] at hk
     obtain ⟨b', hb', -, hrow⟩ := hk
     have : b' = b := by
       have hb2 : a.tmps.getD k undef = .pointer (some ⟨b, 0, none⟩) := hb
       rw [hb2] at hb'; simpa using hb'.symm
     subst this
     obtain ⟨y, u, h1, h2, h3⟩ := row_load hrow hK
     exact ⟨_, y, u, rfl, h1, h2, h3⟩
   · rename_i cs hsk
     rw [hsk] at hk
     have hb2 : a.tmps.getD k undef = .pointer (some ⟨b, 0, none⟩) := hb
     rw [hb2] at hk
     have hk' : Rep w g (.eptr cs) (.pointer (some ⟨b, 0, none⟩)) := hk
     generalize hq : (some (⟨b, 0, none⟩ : Addr)) = q at hk'
     cases hk' with
     | eptr vs hr hs =>
       cases hq
       have e : ∀ j u, (cs.drop off)[j]? = some u → cs[off + j]? = some u := fun j u hu => by rwa [zRa] at hu
       obtain ⟨y, u, h1, h2, h3⟩ := load_cells (vs := fun j => vs (off + j)) (off := off) (b := b) (fun j u hu => by
         have := hr _ u (e j u hu)
         rw [zOb] at this
         exact ⟨this.1, this.2.2⟩) (fun j u hu => hs _ u (e j u hu)) hK
       exact ⟨_, y, u, rfl, h1, h2, h3⟩
   · rename_i i o0 hsk
     rw [hsk] at hk
     have hb2 : a.tmps.getD k undef = .pointer (some ⟨b, 0, none⟩) := hb
     rw [hb2] at hk
     have hk' : Rep w g (.ptr i o0) (.pointer (some ⟨b, 0, none⟩)) := hk
     generalize hq : (some (⟨b, 0, none⟩ : Addr)) = q at hk'
     cases hk' with
     | ptr _ _ hi =>
       cases hq
       unfold objA at hK
       split at hK
       · rename_i cs ho
         obtain ⟨y, u, h1, h2, h3⟩ := row_load (r.heap.obj i _ ho) hK
         rw [zOb] at h1
         exact ⟨_, y, u, rfl, h1, h2, h3⟩
       · rename_i e m cs ho
         have hro : RowE w g e m cs (g.loc i) := r.heap.obj i _ ho
         obtain ⟨y, u, h1, h2, h3⟩ := row_load hro.at hK
         rw [zOb] at h1
         exact ⟨_, y, u, rfl, h1, h2, h3⟩
       · exact hK.elim
   · exact hK.elim
 · rename_i i off
   unfold objA at hK
   split at hK
   · rename_i cs ho
     cases hx with
     | ptr _ _ hi =>
       obtain ⟨y, u, h1, h2, h3⟩ := row_load (r.heap.obj i _ ho) hK
       exact ⟨_, y, u, rfl, h1, h2, h3⟩
   · rename_i e m cs ho
     have hro : RowE w g e m cs (g.loc i) := r.heap.obj i _ ho
     cases hx with
     | ptr _ _ hi =>
       obtain ⟨y, u, h1, h2, h3⟩ := row_load hro.at hK
       exact ⟨_, y, u, rfl, h1, h2, h3⟩
   · exact hK.elim
 · rename_i k sz i off
   obtain ⟨b, c, n, hb, rfl⟩ := hx
   have hk := r.slots k
   unfold eltA at hK
   split at hK
   · rename_i m e sz' xs hsk
     rw [hsk] at hk
     obtain ⟨rfl, hi, hK⟩ := hK
     obtain ⟨hpos, hu, vs, hrow, hone, hrep, -⟩ := hk
     have hxi := zJa hi
     have hlen := hu _ (zQb hi)
     have hfl := flat_length hu
     have hsub : ∀ j u, (xs[i].cells.drop off)[j]? = some u → (flat xs)[i * sz' + off + j]? = some u ∧ i * sz' + off + j < vs.length := fun j u hj => by
       rw [zRa] at hj
       have hlt : off + j < sz' := by
         rcases zMa (off + j) xs[i].cells.length with h | h
         · omega
         · simp [zNa h] at hj
       have h1 := flat_get hu hxi (off + j) hlt
       rw [← Nat.add_assoc, hj] at h1
       refine ⟨h1, ?_⟩
       rw [hrow.1, ← hfl]
       rcases zMa (i * sz' + off + j) (flat xs).length with h | h
       · exact h
       · rw [zNa h] at h1; cases h1
     have hb' : a.tmps.getD k undef = .slice (some ⟨b, 0, none⟩) n c := hb
     rcases hrow.2 with ⟨h0, -⟩ | hr2
     · rw [h0] at hb'; cases hb'
     obtain ⟨y, u, h1, h2, h3⟩ := load_cells (P := P) (w := w) (g := g) (b := b) (off := i * sz' + off) (vs := fun j => vs.getD (i * sz' + off + j) undef) (fun j u hj => by
       obtain ⟨q1, q2⟩ := hsub j u hj
       refine ⟨ownsRow_cell hrow hb' _ q2, hone _ ?_⟩
       rw [zIa, zJa q2]
       exact zQb _) (fun j u hj => hrep _ u (hsub j u hj).1) (hK _ hxi)
     exact ⟨_, y, u, rfl, h1, h2, h3⟩
   · exact hK.elim
 · exact hK.elim
theorem sound_load {N : Nat} {t : TypeId} {p : Operand} (ho : o.op = .load t p) (r : R H w0 g0 s h g a w) (hN : a.tmps.size = N) (hd : ∀ d, o.dst = some d → d < N)
   (hK : atPlace s h (mv s p) fun cs => ofCells P t cs fun v => K v s h) : o.wp P a w (Aft N H w0 g0 o K) Q := by
 obtain ⟨ad, y, u, h1, h2, h3, h4⟩ := atPlace_load r (r.mv p).1 hK
 exact aft_rep r hN hd (by simp [execOp, ho, h1, Instr.loadAt, Instr.sureAddr, h2]) h3 h4
theorem sound_nilCheck {N : Nat} {x : Operand} (ho : o.op = .nilCheck x) (r : R H w0 g0 s h g a w) (hN : a.tmps.size = N) (hd : ∀ d, o.dst = some d → d < N)
   (hK : awpNc (mv s x) fun v => K v s h) : o.wp P a w (Aft N H w0 g0 o K) Q := by
 have hm := (r.mv x).1
 have fin : ∀ ad, a.eval x = .pointer (some ad) → K (mv s x) s h → o.wp P a w (Aft N H w0 g0 o K) Q := fun ad he hk =>
   aft_value r hN hd (v := a.eval x) (by simp [execOp, ho, he]) hm (fun b hb => by rw [(r.mv x).2] at hb; cases hb) hk
 unfold awpNc at hK
 split at hK
 · rename_i k off he
   rw [he] at hm
   obtain ⟨b, -, hv⟩ := hm
   exact fin _ hv hK
 · rename_i cs he
   rw [he] at hm
   have hm' : Rep w g (.eptr cs) (a.eval x) := hm
   generalize hv : a.eval x = v at hm'
   cases hm' with
   | eptr vs hr hs => exact fin _ hv hK
 · rename_i i off he
   rw [he] at hm
   have hm' : Rep w g (.ptr i off) (a.eval x) := hm
   generalize hv : a.eval x = v at hm'
   cases hm' with
   | ptr _ _ hi => exact fin _ hv hK
 · rename_i k sz i off he
   rw [he] at hm
   obtain ⟨b, c, n, -, hv⟩ := hm
   exact fin _ hv hK
 · exact hK.elim
theorem fieldOf_spec {t : TypeId} {f off ty : Nat} (hf : fieldOf P t f = some (off, ty)) : ∃ fs x i, P.underlying t = some (.struct fs) ∧ fs[f]? = some x ∧ x.offset = off ∧ x.type = ty ∧ P.info? ty = some i ∧ 0 < i.size := by
 unfold fieldOf at hf
 split at hf
 · rename_i fs hu
   split at hf
   · rename_i x hx
     split at hf
     · rename_i i hi
       split at hf
       · rename_i h0
         simp only [Option.some.injEq, Prod.mk.injEq] at hf
         obtain ⟨rfl, rfl⟩ := hf
         exact ⟨fs, x, i, hu, hx, rfl, rfl, hi, h0⟩
       · cases hf
     · cases hf
   · cases hf
 · cases hf
theorem addr_add (b o n : Nat) : (⟨b, o, none⟩ : Addr).add n = ⟨b, o + n, none⟩ := by
 unfold Addr.add; split
 · rename_i h0; subst h0; rfl
 · rfl
theorem sound_fieldAddr {N : Nat} {t : TypeId} {x : Operand} {f : Nat} (ho : o.op = .fieldAddr t x f) (r : R H w0 g0 s h g a w) (hN : a.tmps.size = N) (hd : ∀ d, o.dst = some d → d < N)
   (hK : awpFa (fieldOf P t f) (mv s x) fun v => K v s h) : o.wp P a w (Aft N H w0 g0 o K) Q := by
 have hm := (r.mv x).1
 unfold awpFa at hK
 split at hK
 · rename_i off ty hf
   obtain ⟨fs, fd, i, hu, hfs, rfl, rfl, hi, h0⟩ := fieldOf_spec hf
   have hrun : ∀ b o', a.eval x = .pointer (some ⟨b, o', none⟩) → (execOp a.eval o).run P w = .ok (.value (.pointer (some ⟨b, o' + fd.offset, none⟩))) w := fun b o' he => by
     have hne : ¬ i.size = 0 := by omega
     simp [execOp, ho, he, Instr.fieldAt, run_underlying hu, hfs, Instr.sureAddr, fieldPlace, run_sizeOf hi, hne, addr_add]
   split at hK
   · rename_i k off he
     rw [he] at hm
     obtain ⟨b, hb, hv⟩ := hm
     exact aft_value r hN hd (hrun b off hv) (x := .place k (off + fd.offset)) ⟨b, hb, rfl⟩ (fun b hb => by cases hb) hK
   · rename_i cs he
     rw [he] at hm
     have hm' : Rep w g (.eptr cs) (a.eval x) := hm
     generalize hv : a.eval x = v at hm'
     cases hm' with
     | @eptr _ b off vs hr hs =>
       refine aft_rep r hN hd (hrun b off hv) (.eptr (fun j => vs (fd.offset + j)) (fun j u hj => ?_) (fun j u hj => ?_)) hK
       · rw [zRa] at hj
         rw [Nat.add_assoc]; exact hr _ _ hj
       · rw [zRa] at hj; exact hs _ _ hj
   · rename_i k off he
     rw [he] at hm
     have hm' : Rep w g (.ptr k off) (a.eval x) := hm
     generalize hv : a.eval x = v at hm'
     cases hm' with
     | ptr _ _ hi => exact aft_rep r hN hd (hrun _ off hv) (.ptr k _ hi) hK
   · rename_i k sz i off he
     rw [he] at hm
     obtain ⟨b, c, n, hb, hv⟩ := hm
     exact aft_value r hN hd (hrun b _ hv) (x := .elt k sz i (off + fd.offset)) ⟨b, c, n, hb, by rw [Nat.add_assoc]⟩ (fun b hb => by cases hb) hK
   · exact hK.elim
 · exact hK.elim
theorem part_cells {t : TypeId} {cs : List AV} {vs : Array Value} {off : Nat} {KV : AV → Prop} (hl : vs.size = cs.length) (h1 : ∀ j, j < vs.size → (vs.getD j undef).oneCell' = true)
   (hs : ∀ j u, cs[j]? = some u → Rep w g u (vs.getD j undef)) (hK : ofCells P t (cs.drop off) KV) : ∃ y u, (part t vs off).run P w = .ok u w ∧ Rep w g y u ∧ KV y := by
 unfold ofCells at hK
 split at hK
 · rename_i d n hu hn
   have hn' : ∃ i, P.info? t = some i ∧ i.size = n := by
     unfold szT at hn
     cases hi : P.info? t with
     | none => simp [hi] at hn
     | some i => simp [hi] at hn; exact ⟨i, rfl, hn⟩
   obtain ⟨i, hi, rfl⟩ := hn'
   have agg : i.size ≤ (cs.drop off).length ∧ KV (.agg ((cs.drop off).take i.size)) → (isAgg t).run P w = .ok true w → ∃ y u, (part t vs off).run P w = .ok u w ∧ Rep w g y u ∧ KV y := by
     rintro ⟨hle, hK⟩ ha
     have hle' : off + i.size ≤ cs.length ∨ i.size = 0 := by simp at hle; omega
     refine ⟨_, .agg (vs.extract off (off + i.size)), by simp [part, ha, run_sizeOf hi], .agg ?_ (fun j hj => ?_) (fun j u hj => ?_), hK⟩
     · simp; rcases hle' with h | h <;> omega
     · simp at hj
       have := h1 (off + j) (by omega)
       have e : (vs.extract off (off + i.size)).getD j undef = vs.getD (off + j) undef := by
         simp only [Array.getD_eq_getD_getElem?, Array.getElem?_extract]
         rw [if_pos (by omega)]
       rw [e]; exact this
     · rw [zUa] at hj
       split at hj
       · rename_i hjl
         rw [zRa] at hj
         have hlt : off + j < cs.length := by
           rcases zMa (off + j) cs.length with h | h
           · exact h
           · simp [zNa h] at hj
         have e : (vs.extract off (off + i.size)).getD j undef = vs.getD (off + j) undef := by
           simp only [Array.getD_eq_getD_getElem?, Array.getElem?_extract]
           rw [if_pos (by omega)]
         rw [e]; exact hs _ _ hj
       · cases hj
   split at hK
   · exact agg hK (by simp [isAgg, run_underlying hu])
   · exact agg hK (by simp [isAgg, run_underlying hu])
   · rename_i h1' h2'
     have ha : (isAgg t).run P w = .ok false w := by
       unfold isAgg
       simp only [Sem.run_bind, run_underlying hu, Result.andThen_ok]
       rfl
     obtain ⟨hlen, hK⟩ := hK
     have hlt : off < cs.length := by simp at hlen; omega
     have hx : (cs.drop off).head? = some cs[off] := by simp [List.head?_drop, hlt]
     refine ⟨val cs[off], vs.getD off undef, ?_, ?_, hK _ hx⟩
     · have hv : vs[off]? = some (vs.getD off undef) := by simp [Array.getD, hl, hlt]
       simp only [part, Sem.run_bind, ha, Result.andThen_ok, Bool.false_eq_true, if_false, hv]; rfl
     · have := hs off _ (zJa hlt)
       generalize cs[off] = c at this
       cases c <;> first | exact this | exact .any _
 · exact hK.elim
theorem sound_field {N : Nat} {t : TypeId} {x : Operand} {f : Nat} (ho : o.op = .field t x f) (r : R H w0 g0 s h g a w) (hN : a.tmps.size = N) (hd : ∀ d, o.dst = some d → d < N)
   (hK : awpField P (fieldOf P t f) (ev s x) fun v => K v s h) : o.wp P a w (Aft N H w0 g0 o K) Q := by
 have hm := r.eval x
 unfold awpField at hK
 split at hK
 · rename_i off ty cs hf he
   obtain ⟨fs, fd, i, hu, hfs, rfl, rfl, hi, h0⟩ := fieldOf_spec hf
   rw [he] at hm
   have hm' : Rep w g (.agg cs) (a.eval x) := hm
   generalize hv : a.eval x = v at hm'
   cases hm' with
   | @agg _ vs hl h1 hs =>
     obtain ⟨y, u, p1, p2, p3⟩ := part_cells hl h1 hs hK
     exact aft_rep r hN hd (by simp [execOp, ho, hv, Instr.field, run_underlying hu, hfs, asAgg, p1]) p2 p3
 · exact hK.elim
theorem sound_extractS {N : Nat} {tt : Operand} {i : Nat} (ho : o.op = .extract tt i) (r : R H w0 g0 s h g a w) (hN : a.tmps.size = N) (hd : ∀ d, o.dst = some d → d < N)
   (hK : awpExtS s (mv s tt) i fun v => K v s h) : o.wp P a w (Aft N H w0 g0 o K) Q := by
 obtain ⟨hm, -⟩ := r.mv tt
 have tup : ∀ (vs : List AV) (us : Array Value), a.eval tt = .tuple us → us.size = vs.length → (∀ j u, vs[j]? = some u → Rep w g u (us.getD j undef)) → i < vs.length → (∀ v, vs[i]? = some v → K (val v) s h) →
     o.wp P a w (Aft N H w0 g0 o K) Q := fun vs us hv hl hs hi hk => by
   have hu := hs i _ (zJa hi)
   refine aft_rep r hN hd (x := val vs[i]) (v := us.getD i undef) (by simp [execOp, ho, hv, Instr.extract, show i < us.size by omega, Array.getD]) ?_ (hk _ (zJa hi))
   exact rep_val (B := 0) (tm := fun _ => undef) (slotRep_of_rep (rep_shared hu) hu)
 unfold awpExtS at hK
 split at hK
 · rename_i k hmk
   rw [hmk] at hm
   have hev : a.eval tt = tmOf a k := hm
   have hsk := r.slots k
   unfold extAl at hK
   split at hK
   · rename_i i' m e sz xs rest hek
     rw [hek] at hsk
     obtain ⟨us, hus, hl, hs, hown⟩ := hsk
     have hus' : a.eval tt = .tuple us := hev.trans hus
     split at hK
     · rename_i hii
       subst hii
       have hi : i' < us.size := by
         rcases zMa i' us.size with h' | h'
         · exact h'
         · exfalso
           have : us.getD i' undef = undef := by simp [Array.getD_eq_getD_getElem?, Array.getElem?_eq_none h']
           rw [this] at hown
           obtain ⟨-, -, vs, ⟨-, h3⟩, -⟩ := hown
           rcases h3 with ⟨h3, -⟩ | ⟨gb, cap, cur, h3, -⟩ <;> cases h3
       refine aft_value r hN hd (x := .part k i') (v := us.getD i' undef) (by simp [execOp, ho, hus', Instr.extract, hi, Array.getD]) ⟨us, hus, rfl⟩ (fun b hb => by simp [privB] at hb) hK
     · exact tup rest us hus' hl hs hK.1 hK.2
   · rename_i vs hek
     rw [hek] at hsk
     have hsk' : Rep w g (.tup vs) (tmOf a k) := hsk
     unfold awpExt at hK
     generalize htk : tmOf a k = v at hsk' hev
     cases hsk' with
     | @tup _ us hl hs => exact tup vs us hev hl hs hK.1 hK.2
   · exact hK.elim
 · unfold awpExt at hK
   split at hK
   · rename_i vs hmv
     rw [hmv] at hm
     have hm' : Rep w g (.tup vs) (a.eval tt) := hm
     generalize hv : a.eval tt = v at hm'
     cases hm' with
     | @tup _ us hl hs => exact tup vs us hv hl hs hK.1 hK.2
   · exact hK.elim
theorem sound_builtin {N : Nat} {b : Builtin} {ts : Array TypeId} {os : Array Operand} (ho : o.op = .call { callee := .builtin b, args := os, argTypes := ts }) (r : R H w0 g0 s h g a w) (hN : a.tmps.size = N) (hd : ∀ d, o.dst = some d → d < N)
   (hK : awpBuiltin P b ts os.toList s h K) : o.wp P a w (Aft N H w0 g0 o K) Q := by
 unfold awpBuiltin at hK
 have hargs : ∀ (l : List Operand), os.toList = l → os.map a.eval = (l.map a.eval).toArray := fun l hl => by subst hl; apply Array.ext'; simp
 split at hK
 · rename_i o' hos
   have hl := r.look o'
   have hA := hargs _ hos
   unfold lenA at hK
   split at hK
   · rename_i bs he
     rw [he] at hl
     obtain ⟨ht, hK⟩ := hK
     obtain ⟨t0, ht0, htu⟩ := zWa.1 ht
     refine aft_rep r hN hd ?_ (.v rfl) hK
     simp [execOp, ho, resolve, invoke, builtin, hA, hl.1, Builtin.len_, ht0, run_underlying htu, goInt]
   · rename_i he
     rw [he] at hl
     obtain ⟨ht, hK⟩ := hK
     obtain ⟨d, hd', hm⟩ := (zJb _ _).1 ht
     obtain ⟨t0, ht0, htu⟩ := zWa.1 hd'
     refine aft_rep r hN hd ?_ (.v rfl) hK
     cases d <;> simp at hm
     simp [execOp, ho, resolve, invoke, builtin, hA, hl.1, Builtin.len_, ht0, run_underlying htu, goInt]
   · rename_i sz xs he
     rw [he] at hl
     obtain ⟨bb, n, c, hev, hn, -⟩ := hl
     obtain ⟨ht, hK⟩ := hK
     obtain ⟨d, hd', hm⟩ := (zJb _ _).1 ht
     obtain ⟨t0, ht0, htu⟩ := zWa.1 hd'
     refine aft_rep r hN hd ?_ (.v rfl) hK
     cases d <;> simp at hm
     simp [execOp, ho, resolve, invoke, builtin, hA, hev, Builtin.len_, ht0, run_underlying htu, goInt, hn]
   · rename_i id off m cc he
     rw [he] at hl
     obtain ⟨bb, n, c, hev, hn, -⟩ := hl
     obtain ⟨ht, hK⟩ := hK
     obtain ⟨d, hd', hm⟩ := (zJb _ _).1 ht
     obtain ⟨t0, ht0, htu⟩ := zWa.1 hd'
     refine aft_rep r hN hd ?_ (.v rfl) hK
     cases d <;> simp at hm
     simp [execOp, ho, resolve, invoke, builtin, hA, hev, Builtin.len_, ht0, run_underlying htu, goInt, hn]
   · exact hK.elim
 · rename_i x y hos
   have hA := hargs _ hos
   have hx := r.eval x
   have hy := r.eval y
   unfold maxA at hK
   split at hK
   · rename_i k i k' j ex ey
     rw [ex] at hx; rw [ey] at hy
     obtain ⟨rfl, hK⟩ := hK
     refine aft_rep r hN hd ?_ (.v rfl) hK
     simp [execOp, ho, resolve, invoke, builtin, hA, (rep_v hx).1, (rep_v hy).1, run_max_int2]
   · exact hK.elim
 · rename_i x y hos
   have hA := hargs _ hos
   have hx := r.eval x
   have hy := r.eval y
   unfold minA at hK
   split at hK
   · rename_i k i k' j ex ey
     rw [ex] at hx; rw [ey] at hy
     obtain ⟨rfl, hK⟩ := hK
     refine aft_rep r hN hd ?_ (.v rfl) hK
     simp [execOp, ho, resolve, invoke, builtin, hA, (rep_v hx).1, (rep_v hy).1, run_min_int2]
   · exact hK.elim
 · rename_i x y z hos
   have hA := hargs _ hos
   have hx := r.eval x
   have hy := r.eval y
   have hz := r.eval z
   unfold maxA at hK
   split at hK
   · rename_i k i k' j ex ey
     rw [ex] at hx; rw [ey] at hy
     obtain ⟨rfl, hK⟩ := hK
     split at hK
     · rename_i k2 i2 k3 j2 ev2 ez
       rw [ez] at hz
       obtain ⟨rfl, hK⟩ := hK
       cases ev2
       refine aft_rep r hN hd ?_ (.v rfl) hK
       simp [execOp, ho, resolve, invoke, builtin, hA, (rep_v hx).1, (rep_v hy).1, (rep_v hz).1, run_max_three]
     · exact hK.elim
   · exact hK.elim
 · rename_i x y z hos
   have hA := hargs _ hos
   have hx := r.eval x
   have hy := r.eval y
   have hz := r.eval z
   unfold minA at hK
   split at hK
   · rename_i k i k' j ex ey
     rw [ex] at hx; rw [ey] at hy
     obtain ⟨rfl, hK⟩ := hK
     split at hK
     · rename_i k2 i2 k3 j2 ev2 ez
       rw [ez] at hz
       obtain ⟨rfl, hK⟩ := hK
       cases ev2
       refine aft_rep r hN hd ?_ (.v rfl) hK
       simp [execOp, ho, resolve, invoke, builtin, hA, (rep_v hx).1, (rep_v hy).1, (rep_v hz).1, run_min_three]
     · exact hK.elim
   · exact hK.elim
 · exact hK.elim
end
end Go.Vm
namespace Go.Vm
open Go.RowKit
section
variable {P : Program} {H : Hst} {w0 w w' : World} {g0 g g' : Gh} {s : Slots} {h h' : Heap} {a : Act} {o : Oper} {K : AV → Slots → Heap → Prop} {Q : Exit → Act → World → Prop}
theorem lt_of_heap {w : World} {b : Nat} {x : Obj} (h : w.heap[b]? = some x) : b < w.heap.size := by
 rcases zMa b w.heap.size with h' | h'
 · exact h'
 · simp [Array.getElem?_eq_none h'] at h
theorem priv_lt {w : World} {g : Gh} {B : Nat} {tm : Nat → Value} {x : AV} {v : Value} {b : Nat} (h : slotRep w g B tm x v) (hb : privB x v = some b) : B ≤ b ∧ b < w.heap.size := by
 cases x with
 | own m e sz xs =>
   obtain ⟨-, -, vs, ⟨-, h3⟩, -⟩ := h
   rcases h3 with ⟨rfl, -⟩ | ⟨gb, cap, cur, rfl, a1, a2, -⟩
   · simp [privB, Value.ownBlock] at hb
   · simp only [privB, Value.ownBlock, Option.some.injEq] at hb
     subst hb
     exact ⟨a1, lt_of_heap a2⟩
 | otup i m e sz xs rest =>
   obtain ⟨us, rfl, -, -, -, -, vs, ⟨-, h3⟩, -⟩ := h
   have hb' : (us.getD i undef).ownBlock = some b := hb
   rcases h3 with ⟨hv, -⟩ | ⟨gb, cap, cur, hv, a1, a2, -⟩
   · rw [hv] at hb'; simp [Value.ownBlock] at hb'
   · rw [hv] at hb'; simp only [Value.ownBlock, Option.some.injEq] at hb'
     subst hb'
     exact ⟨a1, lt_of_heap a2⟩
 | box cs =>
   obtain ⟨b', rfl, hB, vs, e, a1, -⟩ := h
   simp only [privB, Option.some.injEq] at hb
   subst hb
   exact ⟨hB, lt_of_heap a1⟩
 | iter id since seen c0 =>
   obtain ⟨b', rfl, hB, a1, -⟩ := h
   simp only [privB, Option.some.injEq] at hb
   subst hb
   exact ⟨hB, lt_of_heap a1⟩
 | _ => simp [privB] at hb
theorem HeapRep.pub0 (hr : HeapRep w g h) (i : Nat) (hi : i < g.n) : g.pub (g.loc i) = 0 := by
 have hi' : i < h.length := by rw [hr.n]; exact hi
 have := hr.obj i _ (zJa hi')
 cases ho : h[i] with
 | cells cs => rw [ho] at this; obtain ⟨vs, e, -, -, h0, -⟩ := this; exact h0
 | row e m cs => rw [ho] at this; obtain ⟨vs, -, -, -, h0, -⟩ := this; exact h0
 | map es => rw [ho] at this; exact this.1
theorem Frame.keeps (hf : Frame w g w') (hh : HeapRep w g h) (hfr : ∀ b, w.heap.size ≤ b → g.pub b = 0) (hn : g.n ≤ g'.n) (hl : ∀ i, i < g.n → g'.loc i = g.loc i)
   (hp : ∀ b, b < w.heap.size → g'.pub b = g.pub b) : Keeps w g w' g' := by
 have lt : ∀ b j, j < g.pub b → b < w.heap.size := fun b j hj => by
   rcases zMa b w.heap.size with h' | h'
   · exact h'
   · have := hfr b h'; omega
 refine ⟨fun b => ?_, fun b j v hj hv => ?_, hn, hl⟩
 · rcases zMa b w.heap.size with h' | h'
   · rw [hp b h']; exact zPa _
   · rw [hfr b h']; exact zKb _
 · have hb := lt b j hj
   have : w'.heap[b]? = w.heap[b]? := hf.block b hb fun i hi e => by
     have := hh.pub0 i hi; rw [e] at this; omega
   rw [World.cell?_of_block (a := ⟨b, j, none⟩) this]; exact hv
theorem Frame.trans (hf : Frame w0 g0 w) (hf' : Frame w g w') (hl : ∀ i, i < g0.n → g.loc i = g0.loc i) (h1 : ∀ i, i < g.n → g0.n ≤ i → w0.heap.size ≤ g.loc i) : Frame w0 g0 w' := by
 refine ⟨hf'.os.trans hf.os, hf'.tape.trans hf.tape, hf'.output.trans hf.output, zXa hf.size hf'.size, fun k hk hno => ?_⟩
 rw [hf'.block k (zSa hk hf.size) fun i hi e => ?_]
 · exact hf.block k hk hno
 · rcases zMa i g0.n with hi' | hi'
   · exact hno i hi' ((hl i hi').symm.trans e)
   · have := h1 i hi hi'; omega
theorem R.called (r : R H w0 g0 s h g a w) (hf : Frame w g w') (hh : HeapRep w' g' h') (hn : g.n ≤ g'.n) (hl : ∀ i, i < g.n → g'.loc i = g.loc i)
   (hp : ∀ b, b < w.heap.size → g'.pub b = g.pub b) (h1 : ∀ i, i < g'.n → g.n ≤ i → w.heap.size ≤ g'.loc i) (hfr : ∀ b, w'.heap.size ≤ b → g'.pub b = 0) :
   R H w0 g0 s h' g' a w' := by
 have hk : Keeps w g w' g' := hf.keeps r.heap r.fresh hn hl hp
 have hs0 := r.frame.size
 have hb : ∀ i b, privB (s i) (tmOf a i) = some b → w'.heap[b]? = w.heap[b]? ∧ g'.pub b = g.pub b := fun i b hb => by
   have hlt := priv_lt (r.slots i) hb
   exact ⟨hf.block b hlt.2 fun k hk => r.sep i b hb k hk, hp b hlt.2⟩
 refine ⟨r.defers, fun i => (r.slots i).keepAt hk (hb i), r.apart, fun i b hi k hk' => ?_, hh, r.frame.trans hf r.loc0 r.loc1, zXa r.n0 hn, fun i hi => ?_, fun b hb' => ?_, fun i hi h0 => ?_, hfr, fun i cs hi => (r.laid i cs hi).keep hk, r.kept.trans hk⟩
 · rcases zMa k g.n with hk2 | hk2
   · rw [hl k hk2]; exact r.sep i b hi k hk2
   · have := h1 k hk' hk2
     have := priv_lt (r.slots i) hi
     omega
 · rw [hl i (zSa hi r.n0)]; exact r.loc0 i hi
 · rw [hp b (zSa hb' hs0)]; exact r.old b hb'
 · rcases zMa i g.n with hi2 | hi2
   · rw [hl i hi2]; exact r.loc1 i hi2 h0
   · have := h1 i hi hi2; omega
theorem R.alloc (r : R H w0 g0 s h g a w) (x : Obj) : R H w0 g0 s h g a (w.alloc x) := by
 have hb : ∀ b, b < w.heap.size → (w.alloc x).heap[b]? = w.heap[b]? := fun b hb => Below.heap_alloc w x b hb
 have hsz : w.heap.size ≤ (w.alloc x).heap.size := by simp [World.alloc_eq]
 have lt : ∀ b j, j < g.pub b → b < w.heap.size := fun b j hj => by
   rcases zMa b w.heap.size with h' | h'
   · exact h'
   · have := r.fresh b h'; omega
 refine r.world ⟨fun b => zPa _, fun b j v hj hv => ?_, zPa _, fun _ _ => rfl⟩ rfl (fun i b hb' => ⟨hb b (priv_lt (r.slots i) hb').2, rfl⟩) (fun i hi => ⟨hb _ (r.heap.lt i hi), rfl⟩) ?_ hsz (fun _ _ => rfl) (fun b hb' => r.fresh b (zXa hsz hb'))
 · rw [World.cell?_of_block (a := ⟨b, j, none⟩) (hb b (lt b j hj))]; exact hv
 · exact ⟨r.frame.os, r.frame.tape, r.frame.output, zXa r.frame.size hsz, fun k hk hno => (hb k (zSa hk r.frame.size)).trans (r.frame.block k hk hno)⟩
theorem R.drew (r : R H w0 g0 s h g a w) : R H w0 g0 s h g a w.drew :=
 r.world ⟨fun b => zPa _, fun b j v hj hv => hv, zPa _, fun _ _ => rfl⟩ rfl (fun i b hb' => ⟨rfl, rfl⟩) (fun i hi => ⟨rfl, rfl⟩)
   ⟨r.frame.os, r.frame.tape, r.frame.output, r.frame.size, r.frame.block⟩ (zPa _) (fun _ _ => rfl) r.fresh
theorem R.sep_new (r : R H w0 g0 s h g a w) : (∀ i, privB (s i) (tmOf a i) ≠ some w.heap.size) ∧ ∀ k, k < g.n → g.loc k ≠ w.heap.size :=
 ⟨fun i hi => by have := (priv_lt (r.slots i) hi).2; omega, fun k hk e => by have := r.heap.lt k hk; omega⟩
theorem aft_world {N : Nat} {x : AV} {v : Value} (r' : R H w0 g0 s h g' a w') (hN : a.tmps.size = N) (hd : ∀ d, o.dst = some d → d < N)
   (hrun : (execOp a.eval o).run P w = .ok (.value v) w') (hx : slotRep w' g' w0.heap.size (tmOf a) x v)
   (hp : ∀ b, privB x v = some b → (∀ i, privB (s i) (tmOf a i) ≠ some b) ∧ ∀ k, k < g'.n → g'.loc k ≠ b) (hK : K x s h) :
   o.wp P a w (Aft N H w0 g0 o K) Q := by
 unfold Oper.wp
 rw [hrun, Oper.upon_value]
 refine ⟨x, s, h, g', hK, ?_, by rw [size_put]; exact hN⟩
 cases ho : o.dst with
 | none => exact r'
 | some d => exact r'.put (by rw [hN]; exact hd d ho) hx fun b hb => ⟨fun i _ => (hp b hb).1 i, (hp b hb).2⟩
theorem solid_rep {w : World} {g : Gh} {x : AV} {v : Value} (hs : solid x = true) (hr : Rep w g x v) :
   v.cells.size = x.cells.length ∧ (∀ u ∈ v.cells.toList, u.oneCell' = true) ∧ ∀ j u, x.cells[j]? = some u → Rep w g u (v.cells.toList.getD j undef) := by
 have one : x.cells = [x] → v.cells = #[v] → v.oneCell' = true → v.cells.size = x.cells.length ∧ (∀ u ∈ v.cells.toList, u.oneCell' = true) ∧ ∀ j u, x.cells[j]? = some u → Rep w g u (v.cells.toList.getD j undef) := by
   intro h1 h2 h3
   rw [h1, h2]
   refine ⟨rfl, fun u hu => by simp at hu; subst hu; exact h3, fun j u hu => ?_⟩
   cases j with
   | zero => simp at hu; subst hu; simpa using hr
   | succ j => simp at hu
 cases hr with
 | v h => exact one rfl (by cases v <;> first | rfl | simp [plain] at h) (plain_oneCell h)
 | nil => exact one rfl rfl rfl
 | empty => exact one rfl rfl rfl
 | sl => exact one rfl rfl rfl
 | @agg cs vs hl h1 hs' =>
   refine ⟨hl, fun u hu => ?_, fun j u hu => ?_⟩
   · obtain ⟨j, hj, rfl⟩ := List.getElem_of_mem hu
     have hj' : j < vs.size := by simpa [Value.cells] using hj
     have := h1 j hj'
     simpa [Array.getD, hj', Value.cells] using this
   · have := hs' j u hu
     simpa [Value.cells, Array.getD_eq_getD_getElem?, zIa] using this
 | tup => simp [solid] at hs
 | eptr => exact one rfl rfl rfl
 | ptr => exact one rfl rfl rfl
 | mp => exact one rfl rfl rfl
 | clo => exact one rfl rfl rfl
 | osl => simp [solid] at hs
 | any => simp [solid] at hs
theorem solid_flat {w : World} {g : Gh} {sz : Nat} : ∀ {xs : List AV} {vs : List Value}, xs.length = vs.length → (∀ x ∈ xs, solid x = true ∧ x.cells.length = sz) → (∀ j u, xs[j]? = some u → Rep w g u (vs.getD j undef)) →
   (∀ v ∈ vs, v.cells.size = sz) ∧ (∀ u ∈ vs.flatMap fun v => v.cells.toList, u.oneCell' = true) ∧ ∀ j u, (flat xs)[j]? = some u → Rep w g u ((vs.flatMap fun v => v.cells.toList).getD j undef)
 | [], [], _, _, _ => ⟨by simp, by simp, by simp [flat]⟩
 | x :: xs, v :: vs, hl, hx, hr => by
   obtain ⟨h1, h2, h3⟩ := solid_rep (hx x (zSb ..)).1 (hr 0 x rfl)
   obtain ⟨i1, i2, i3⟩ := solid_flat (xs := xs) (vs := vs) (by simpa using hl) (fun y hy => hx y (zVb _ hy)) (fun j u hu => hr (j + 1) u (by simpa using hu))
   have hsz := (hx x (zSb ..)).2
   simp only [List.getD_cons_zero] at h1 h2 h3
   refine ⟨fun u hu => ?_, fun u hu => ?_, fun j u hu => ?_⟩
   · rcases List.mem_cons.1 hu with rfl | hu
     · omega
     · exact i1 u hu
   · simp only [zYa, List.mem_append] at hu
     rcases hu with hu | hu
     · exact h2 u hu
     · exact i2 u hu
   · simp only [flat, zYa] at hu i3 ⊢
     have hvl : v.cells.toList.length = x.cells.length := by simpa using h1
     rw [zIa]
     rcases zMa j x.cells.length with hj | hj
     · rw [zLa hj] at hu
       rw [zLa (by omega)]
       simpa [zIa] using h3 j u hu
     · rw [zKa hj] at hu
       rw [zKa (by omega), hvl]
       simpa [zIa] using i3 _ u hu
theorem zip_parts (f : Operand → Value) : ∀ (l : List (Nat × Operand)) (k : Nat), l.map (·.1) = (List.range l.length).map (· + k) → l.map (fun p => (p.1, f p.2)) = ((l.map fun p => f p.2).zipIdx k).map fun x => (x.2, x.1)
 | [], k, _ => rfl
 | (i, x) :: l, k, h => by
   rw [List.length_cons, List.range_succ_eq_map] at h
   simp only [List.map_cons, List.map_map, List.cons.injEq, zOb] at h
   obtain ⟨rfl, h⟩ := h
   simp only [List.map_cons, List.zipIdx_cons, List.cons.injEq, true_and]
   refine zip_parts f l (i + 1) ?_
   rw [h]
   apply List.map_congr_left
   intro j _
   simp only [Function.comp_apply]
   omega
theorem sound_buildSlice {N : Nat} {t : TypeId} {n : Nat} {parts : Array (Nat × Operand)} (ho : o.op = .buildSlice t n parts) (r : R H w0 g0 s h g a w) (hN : a.tmps.size = N) (hd : ∀ d, o.dst = some d → d < N)
   (hK : awpBS P (elemSz P t) n (parts.toList.map (·.1)) (frzs s (parts.toList.map (·.2))).1 fun v => K v (frzs s (parts.toList.map (·.2))).2 h) : o.wp P a w (Aft N H w0 g0 o K) Q := by
 unfold awpBS at hK
 split at hK
 · rename_i e sz he
   obtain ⟨hz, hsz, hsmall, hix, hlen, hsol, hK⟩ := hK
   obtain ⟨hu, inf, hinf, hisz⟩ := elemSz_spec he
   obtain ⟨g1, r1, k1, l1, n1, p1⟩ := R.frzs (parts.toList.map (·.2)) r
   have hpl : parts.toList.length = n := by simpa [l1] using hlen
   have hzz : ∃ z, inf.zero = some z := by
     rw [hinf] at hz; simp only [Option.any_some] at hz
     exact Option.isSome_iff_exists.1 hz
   obtain ⟨z, hz⟩ := hzz
   let vs := (parts.toList.map (·.2)).map a.eval
   have hvl : vs.length = n := by simp [vs, hpl]
   obtain ⟨q1, q2, q3⟩ := solid_flat (w := w) (g := g1) (xs := (frzs s (parts.toList.map (·.2))).1) (vs := vs) (by rw [hlen, hvl]) hsol p1
   have hfill := Great.fill_whole hsz vs ((Array.range (n * sz)).map (z.cells[· % z.cells.size]!)) q1 (by simp [hvl])
   have hparts : parts.toList.map (fun p => (p.1, a.eval p.2)) = (vs.zipIdx 0).map fun x => (x.2, x.1) := by
     have := zip_parts a.eval parts.toList 0 (by rw [hix, hpl]; simp)
     rw [this]; simp [vs, Function.comp_def]
   have hne : n * sz = 0 → vs = [] := fun h0 => by
     have : n = 0 := by rcases Nat.mul_eq_zero.1 h0 with h | h <;> omega
     exact zQa (by omega)
   have hcl : (vs.flatMap fun v => v.cells.toList).length = n * sz := by
     have : ∀ l : List Value, (∀ v ∈ l, v.cells.size = sz) → (l.flatMap fun v => v.cells.toList).length = l.length * sz := fun l => by
       induction l with
       | nil => intro _; simp
       | cons y ys ih =>
         intro hy
         simp only [zYa, zVa, List.length_cons]
         rw [ih fun v hv => hy v (zVb _ hv), zIb]
         have := hy y (zSb ..)
         simp; omega
     rw [this vs q1, hvl]
   have hrun : (execOp a.eval o).run P w = .ok (.value (.slice (some ⟨w.heap.size, 0, none⟩) n n)) (w.alloc (.cells (vs.flatMap fun v => v.cells.toList).toArray e)) := by
     have hp2 : (parts.map fun (p : Nat × Operand) => (p.1, a.eval p.2)).toList = (vs.zipIdx 0).map fun x => (x.2, x.1) := by rw [Array.toList_map]; exact hparts
     have hzr : (zeroValue e).run P w = .ok z w := by simp [zeroValue, typeInfo, hinf, hz]
     by_cases h0 : n * sz = 0
     · have hfill0 : Instr.fill (fun i => some (i * sz, sz)) ((Array.range (n * sz)).map ((#[] : Array Value)[· % (#[] : Array Value).size]!)) ((vs.zipIdx 0).map fun x => (x.2, x.1)) = some (vs.flatMap fun v => v.cells.toList).toArray := by
         rw [hne h0]; simp [Instr.fill, h0]
       simp only [execOp, ho, Sem.run_bind, Instr.buildSlice, run_underlying hu, Result.andThen_ok, run_sizeOf hinf, hisz, show ¬ n * sz > 2 ^ 24 by omega, if_false, Sem.run_pure]
       rw [if_pos h0]
       simp only [Sem.run_bind, Sem.run_pure, Result.andThen_ok, hp2, hfill0, newRow, newObj]
       rfl
     · simp only [execOp, ho, Sem.run_bind, Instr.buildSlice, run_underlying hu, Result.andThen_ok, run_sizeOf hinf, hisz, show ¬ n * sz > 2 ^ 24 by omega, if_false, Sem.run_pure]
       rw [if_neg h0]
       simp only [Sem.run_bind, hzr, Sem.run_pure, Result.andThen_ok, hp2, hfill, newRow, newObj]
       rfl
   have r2 := r1.alloc (.cells (vs.flatMap fun v => v.cells.toList).toArray e)
   have hkeep : Keeps w g1 (w.alloc (.cells (vs.flatMap fun v => v.cells.toList).toArray e)) g1 := ⟨fun b => zPa _, fun b j v hj hv => by
     have hb : b < w.heap.size := by
       rcases zMa b w.heap.size with h' | h'
       · exact h'
       · have := r1.fresh b h'; omega
     rw [World.cell?_of_block (a := ⟨b, j, none⟩) (Below.heap_alloc w _ b hb)]; exact hv, zPa _, fun _ _ => rfl⟩
   refine aft_world r2 hN hd hrun (x := .own true e sz (frzs s (parts.toList.map (·.2))).1) ?_ (fun b hb => ?_) hK
   · refine ⟨hsz, fun x hx => (hsol x hx).2, vs.flatMap fun v => v.cells.toList, ?_, q2, fun j u hu => (q3 j u hu).keep hkeep, fun b hb => ?_⟩
     · rw [hlen]
       refine ⟨hcl, .inr ⟨w.heap.size, n, _, rfl, r1.frame.size, heap_alloc_new w _, zPa _, ?_, by simp [hcl], ?_⟩⟩
       · unfold maxLen
         have : n ≤ n * sz := Nat.le_mul_of_pos_right _ hsz
         omega
       · rw [← hcl]; exact List.take_length
     · simp only [Value.ownBlock, Option.some.injEq] at hb
       subst hb
       rw [r1.fresh _ (zPa _)]; exact zKb _
   · simp only [privB, Value.ownBlock, Option.some.injEq] at hb
     subst hb
     exact r1.sep_new
 · exact hK.elim
theorem sound_cv {N : Nat} {t t' : TypeId} {x : Operand} (ho : o.op = .convert t t' x) (r : R H w0 g0 s h g a w) (hN : a.tmps.size = N) (hd : ∀ d, o.dst = some d → d < N)
   (hK : awpCv P t t' (tk s x) (ev s x) s fun v s' => K v s' h) : o.wp P a w (Aft N H w0 g0 o K) Q := by
 unfold awpCv at hK
 split at hK
 · rename_i m e sz xs s' hp
   obtain ⟨hne, rfl, hty, hK⟩ := hK
   have htk := r.tk x
   have hle := r.le (le_tk s x)
   rw [hp] at htk hle
   obtain ⟨⟨q1, q2, vs, q3, q4, q5, q6⟩, hpr⟩ := htk
   have hK' : K (.sl sz xs) s' h := hK
   split at hty
   · rename_i e' hu
     rcases q3.2 with ⟨hv, h0⟩ | ⟨gb, cap, cur, hv, b1, b2, b3, b4, b5, b6⟩
     · exact absurd (zQa h0) hne
     · have hgb := lt_of_heap b2
       obtain ⟨p1, p2⟩ := hpr gb (by rw [hv]; rfl)
       have hxl := flat_length q2
       -- the block as it is behind the mark
       have hfz : ∀ k, k ≠ gb → (w.freeze ⟨gb, cur.size, none⟩ 1).heap[k]? = w.heap[k]? := fun k hk => by
         simp only [World.freeze, Nat.one_ne_zero, if_false]
         rw [Array.getElem?_modify]
         simp [Ne.symm hk]
       have hfg : (w.freeze ⟨gb, cur.size, none⟩ 1).heap[gb]? = some (.cells cur e (cur.size, cur.size + 1)) := by
         simp only [World.freeze, Nat.one_ne_zero, if_false]
         rw [Array.getElem?_modify]
         simp [b2]
       have hsz : (w.freeze ⟨gb, cur.size, none⟩ 1).heap.size = w.heap.size := by simp [World.freeze]
       have hcell : ∀ b j v, w.cell? ⟨b, j, none⟩ = some v → (w.freeze ⟨gb, cur.size, none⟩ 1).cell? ⟨b, j, none⟩ = some v := fun b j v hcv => by
         by_cases hb : b = gb
         · subst hb
           rw [cell_of_row _ b j cur e _ hfg]
           rw [cell_of_row _ b j cur e _ b2] at hcv
           exact hcv
         · rw [World.cell?_of_block (a := ⟨b, j, none⟩) (hfz b hb)]; exact hcv
       have hk1 := keeps_raise w g gb (xs.length * sz)
       have hk : Keeps w g (w.freeze ⟨gb, cur.size, none⟩ 1) (raise g gb (xs.length * sz)) := ⟨hk1.pub, fun b j v _ hcv => hcell b j v hcv, zPa _, fun _ _ => rfl⟩
       have r2 : R H w0 g0 s' h (raise g gb (xs.length * sz)) a (w.freeze ⟨gb, cur.size, none⟩ 1) := by
         refine hle.world hk rfl (fun i b hb => ?_) (fun i hi => ?_) ?_ (by rw [hsz]; exact zPa _) (fun b hb => raise_other (by omega)) (fun b hb => ?_)
         · have : b ≠ gb := fun e => p1 i (e ▸ hb)
           exact ⟨hfz b this, raise_other this⟩
         · exact ⟨hfz _ (p2 i hi), raise_other (p2 i hi)⟩
         · refine ⟨r.frame.os, r.frame.tape, r.frame.output, by rw [hsz]; exact r.frame.size, fun k hk hno => ?_⟩
           rw [hfz k (by omega)]; exact r.frame.block k hk hno
         · rw [hsz] at hb
           rw [raise_other (by omega)]; exact r.fresh b hb
       refine aft_world r2 hN hd (v := a.eval x) ?_ (x := .sl sz xs) (slotRep_of_rep rfl ?_) (fun b hb => by cases hb) hK'
       · rw [hv]
         simp only [execOp, ho, hv, convert, Sem.run_bind, run_underlying hu, Result.andThen_ok, beq_self_eq_true, run_underlying hty]
         have hsh : w.shape? gb = some (e, cur.size) := by simp [World.shape?, b2]
         simp [markStringish, shape, Sem.run, hsh, freeze]
       · rw [hv]
         have hpub : (raise g gb (xs.length * sz)).pub gb = xs.length * sz := by
           have := q6 gb (by rw [hv]; rfl)
           simp only [raise, if_true]
           split at this <;> omega
         refine .sl (fun j => vs.getD j undef) b3 b4 q1 q2 (fun j u hj => ?_) (fun j u hj => (q5 j u hj).keep hk)
         have hjl : j < xs.length * sz := by
           rw [← hxl]
           rcases zMa j (flat xs).length with h' | h'
           · exact h'
           · simp [zNa h'] at hj
         have hvl := q3.1
         refine ⟨?_, by rw [hpub]; omega, q4 _ ?_⟩
         · rw [zOb]
           exact hcell _ _ _ (ownsRow_cell q3 hv j (by omega))
         · rw [zIa, zJa (by omega)]
           exact zQb _
   · exact hty.elim
 · exact sound_conv ho r hN hd hK
theorem ownsRow_base {w : World} {B B' e sz : Nat} {v : Value} {n : Nat} {vs : List Value} (h : w.ownsRow B e sz v n vs) (hB : B' ≤ B) : w.ownsRow B' e sz v n vs :=
 ⟨h.1, h.2.imp_right fun ⟨gb, cap, cur, e1, e2, e3⟩ => ⟨gb, cap, cur, e1, zXa hB e2, e3⟩⟩
theorem run_callFunc {f : FuncId} {fn : Func} (h1 : P.funcs[f]? = some fn) (h2 : fn.body.isNone = false) (h3 : (fn.name == "runtime.NumGoroutine") = false) (vs : Array Value) :
   (callFunc f vs).run P w = .ok (.enter f vs) w := by
 simp only [callFunc, program, Sem.run_bind, Sem.run, Result.andThen_ok, h1, h2, h3, if_false, Bool.false_eq_true]
 rfl
mutual
theorem ga_rep {w : World} {g : Gh} {x y : AV} {v : Value} (h : Ga x y) (r : Rep w g x v) : Rep w g y v := by
 cases h with
 | refl => exact r
 | any => exact .any v
 | nil sz => rw [(rep_v r).1]; exact .nil sz
 | agg h =>
   obtain ⟨h1, h2⟩ := gaL_rep (w := w) (g := g) h
   cases r with
   | agg hl h0 hs => exact .agg (by omega) h0 (h2 _ hs)
 | tup h =>
   obtain ⟨h1, h2⟩ := gaL_rep (w := w) (g := g) h
   cases r with
   | tup hl hs => exact .tup (by omega) (h2 _ hs)
theorem gaL_rep {w : World} {g : Gh} {xs ys : List AV} (h : GaL xs ys) : xs.length = ys.length ∧ ∀ (vs : Nat → Value), (∀ j u, xs[j]? = some u → Rep w g u (vs j)) → ∀ j u, ys[j]? = some u → Rep w g u (vs j) := by
 cases h with
 | nil => exact ⟨rfl, fun vs h j u hu => by simp at hu⟩
 | cons hx ht =>
   obtain ⟨h1, h2⟩ := gaL_rep (w := w) (g := g) ht
   refine ⟨by simp [h1], fun vs hr j u hu => ?_⟩
   cases j with
   | zero => simp only [zMb, Option.some.injEq] at hu; subst hu; exact ga_rep hx (hr 0 _ rfl)
   | succ j =>
     simp only [zPb] at hu
     exact h2 (fun j => vs (j + 1)) (fun j u hu => hr (j + 1) u (by simpa using hu)) j u hu
end
theorem R.promote (r : R H w0 g0 s h g a w) {t : Nat} {cs : List AV} (hs : s t = .box cs) :
   ∃ g', R H w0 g0 (Vm.set s t (.ptr h.length 0)) (h ++ [.cells cs]) g' a w ∧ Keeps w g w g' ∧ Rep w g' (.ptr h.length 0) (tmOf a t) := by
 have hsl := r.slots t
 rw [hs] at hsl
 obtain ⟨b, hv, hB, hrow⟩ := hsl
 have hb : privB (s t) (tmOf a t) = some b := by
   rw [hs]; show privB (.box cs) (a.tmps.getD t undef) = _; rw [hv]; rfl
 have hn := r.heap.n
 have hk : Keeps w g w { g with n := g.n + 1, loc := fun i => if i = g.n then b else g.loc i } :=
   ⟨fun _ => zPa _, fun _ _ _ _ h => h, Nat.le_succ _, fun i hi => by simp only []; rw [if_neg (by omega)]⟩
 have hrep : Rep w { g with n := g.n + 1, loc := fun i => if i = g.n then b else g.loc i } (.ptr h.length 0) (tmOf a t) := by
   have := Rep.ptr (w := w) (g := { g with n := g.n + 1, loc := fun i => if i = g.n then b else g.loc i }) h.length 0 (by simp only []; omega)
   simp only [hn, if_true] at this
   show Rep w _ (.ptr h.length 0) (a.tmps.getD t undef)
   rw [hv, hn]; exact this
 refine ⟨_, ?_, hk, hrep⟩
 have hpr : ∀ i, privB (Vm.set s t (.ptr h.length 0) i) (tmOf a i) = if i = t then none else privB (s i) (tmOf a i) := fun i => by
   unfold Vm.set; split <;> rfl
 refine ⟨r.defers, fun i => ?_, fun i j b' hi hj => ?_, fun i b' hi k hk' => ?_, ?_, r.frame, zXa r.n0 (Nat.le_succ _), fun i hi => ?_, r.old, fun i hi h0 => ?_, r.fresh, fun i cs hi => (r.laid i cs hi).keep hk, r.kept.trans hk⟩
 · by_cases hi : i = t
   · subst hi; simp only [Vm.set, if_true]; exact hrep
   · simp only [Vm.set, hi, if_false]; exact (r.slots i).keepAt hk fun b' _ => ⟨rfl, rfl⟩
 · have hi' : privB (Vm.set s t (.ptr h.length 0) i) (tmOf a i) = some b' := hi
   have hj' : privB (Vm.set s t (.ptr h.length 0) j) (tmOf a j) = some b' := hj
   rw [hpr] at hi' hj'
   split at hi'
   · cases hi'
   · split at hj'
     · cases hj'
     · exact r.apart i j b' hi' hj'
 · have hi' : privB (Vm.set s t (.ptr h.length 0) i) (tmOf a i) = some b' := hi
   rw [hpr] at hi'
   split at hi'
   · cases hi'
   · rename_i hit
     simp only [] at hk' ⊢
     split
     · intro e
       exact hit (r.apart i t b' hi' (e ▸ hb))
     · exact r.sep i b' hi' k (by omega)
 · refine ⟨by simp [hn], fun i hi => ?_, fun i j hi hj e => ?_, fun i o' ho => ?_⟩
   · simp only [] at hi ⊢
     split
     · exact (priv_lt (r.slots t) hb).2
     · exact r.heap.lt i (by omega)
   · simp only [] at hi hj e
     split at e <;> split at e
     · omega
     · exact absurd e.symm (r.sep t b hb j (by omega))
     · exact absurd e (r.sep t b hb i (by omega))
     · exact r.heap.inj i j (by omega) (by omega) e
   · simp only []
     rcases zMa i h.length with hlt | hge
     · rw [zLa hlt] at ho
       rw [if_neg (by omega)]
       exact (r.heap.obj i o' ho).keepAt hk ⟨rfl, rfl⟩
     · rw [zKa hge] at ho
       have hi0 : i - h.length = 0 := by
         rcases Nat.eq_zero_or_pos (i - h.length) with h0 | h0
         · exact h0
         · rw [zNa (by simp only [List.length_cons, List.length_nil]; omega)] at ho; cases ho
       rw [hi0] at ho
       simp only [zMb, Option.some.injEq] at ho
       subst ho
       rw [if_pos (by omega)]
       exact hrow.keepAt hk ⟨rfl, rfl⟩
 · simp only []; rw [if_neg (by have := r.n0; omega)]; exact r.loc0 i hi
 · simp only [] at hi ⊢
   split
   · exact hB
   · exact r.loc1 i (by omega) h0
theorem R.esc (r : R H w0 g0 s h g a w) (o : Operand) :
   ∃ g', R H w0 g0 (Vm.esc s h o).2.1 (Vm.esc s h o).2.2 g' a w ∧ Keeps w g w g' ∧ Rep w g' (Vm.esc s h o).1 (a.eval o) := by
 have hfr : ∃ g', R H w0 g0 (Vm.frz s o).2 h g' a w ∧ Keeps w g w g' ∧ Rep w g' (Vm.frz s o).1 (a.eval o) := by
   obtain ⟨g', h1, h2, h3, -⟩ := r.frz o
   exact ⟨g', h1, h2, h3⟩
 unfold Vm.esc
 split
 · rename_i t
   unfold escA
   split
   · rename_i cs hs
     exact r.promote hs
   · rename_i k off hst
     have hsl := r.slots t
     rw [hst] at hsl
     obtain ⟨b, hb, hv⟩ := hsl
     have hv' : a.eval (.tmp t) = .pointer (some ⟨b, off, none⟩) := hv
     unfold escP
     split
     · rename_i cs hs
       obtain ⟨g', r', k', p'⟩ := r.promote hs
       refine ⟨g', r', k', ?_⟩
       rw [hv']
       have hb' : tmOf a k = .pointer (some ⟨b, 0, none⟩) := hb
       rw [hb'] at p'
       generalize hq : (some (⟨b, 0, none⟩ : Addr)) = q at p'
       cases p' with
       | ptr _ _ hi =>
         cases hq
         exact .ptr _ _ hi
     · rename_i i o0 hs
       have hk := r.slots k
       rw [hs] at hk
       have hb' : a.tmps.getD k undef = .pointer (some ⟨b, 0, none⟩) := hb
       rw [hb'] at hk
       refine ⟨g, r, Keeps.refl w g, ?_⟩
       rw [hv']
       have hk' : Rep w g (.ptr i o0) (.pointer (some ⟨b, 0, none⟩)) := hk
       generalize hq : (some (⟨b, 0, none⟩ : Addr)) = q at hk'
       cases hk' with
       | ptr _ _ hi =>
         cases hq
         rw [zOb]
         exact .ptr _ _ hi
     · exact hfr
   · exact hfr
 · exact hfr
theorem R.escs : ∀ (os : List Operand) {s : Slots} {h : Heap} {g : Gh}, R H w0 g0 s h g a w →
   ∃ g', R H w0 g0 (Vm.escs s h os).2.1 (Vm.escs s h os).2.2 g' a w ∧ Keeps w g w g' ∧ (Vm.escs s h os).1.length = os.length ∧ ∀ j u, (Vm.escs s h os).1[j]? = some u → Rep w g' u ((os.map a.eval).getD j undef)
 | [], s, h, g, r => ⟨g, r, Keeps.refl w g, rfl, fun j u hu => by simp [Vm.escs] at hu⟩
 | o :: os, s, h, g, r => by
   obtain ⟨g1, r1, k1, p1⟩ := r.esc o
   obtain ⟨g2, r2, k2, l2, p2⟩ := R.escs os r1
   refine ⟨g2, r2, k1.trans k2, by simp [Vm.escs, l2], fun j u hu => ?_⟩
   cases j with
   | zero =>
     simp only [Vm.escs, zMb, Option.some.injEq] at hu
     subst hu
     simpa using p1.keep k2
   | succ j =>
     simp only [Vm.escs, zPb] at hu
     simpa using p2 j u hu
theorem sound_call {N : Nat} {T : FuncId → Option Spec} {f : FuncId} {caps : List AV} {x : Operand} {os : Array Operand} {ts : Array TypeId} (hT : ∀ f S, T f = some S → Does P f S)
   (ho : o.op = .call { callee := .value x, args := os, argTypes := ts }) (r : R H w0 g0 s h g a w) (hN : a.tmps.size = N) (hd : ∀ d, o.dst = some d → d < N)
   (hf : ev s x = .clo f caps) (hK : awpCall T f caps os.toList s h K) : o.wp P a w (Aft N H w0 g0 o K) Q := by
 have hx := r.eval x
 · rw [hf] at hx
   have hx' : Rep w g (.clo f caps) (a.eval x) := hx
   generalize hv : a.eval x = v at hx'
   cases hx' with
   | @clo _ _ cv hcl hcs =>
   unfold awpCall at hK
   split at hK
   · rename_i S hS
     obtain ⟨as, hga, Q0, hS0, hQ⟩ := hK
     obtain ⟨⟨fn, hf1, hf2, hf3⟩, hdo⟩ := hT f S hS
     obtain ⟨g1, r1, k1, l1, p1⟩ := R.escs os.toList r
     have hrun : (execOp a.eval o).run P w = .ok (.enter f ((os.toList.map a.eval).toArray ++ cv)) w := by
       have hA : os.map a.eval = (os.toList.map a.eval).toArray := by apply Array.ext'; simp
       simp only [execOp, ho, resolve, Sem.run_bind, hA, hv, Deferred.ofValue]
       simp [invoke, run_callFunc hf1 hf2 hf3]
     unfold Oper.wp
     rw [hrun, Oper.upon]
     refine (hdo _ _ Q0 hS0 w g1 ((os.toList.map a.eval).toArray ++ cv) (by rw [← (gaL_rep (w := w) (g := g1) hga).1]; simp [l1, hcl]) ((gaL_rep hga).2 (fun j => ((os.toList.map a.eval).toArray ++ cv).getD j undef) (fun j u hu => ?_)) r1.heap r1.fresh r1.laid).mono ?_
     · rcases zMa j os.toList.length with hj | hj
       · rw [zLa (by omega)] at hu
         have := p1 j u hu
         have e : ((os.toList.map a.eval).toArray ++ cv).getD j undef = (os.toList.map a.eval).getD j undef := by
           simp only [Array.getD_eq_getD_getElem?, zIa]
           rw [Array.getElem?_append_left (by simpa using hj)]; simp
         rw [e]; exact this
       · rw [zKa (by omega), l1] at hu
         have := (hcs _ u hu).keep k1
         have e : ((os.toList.map a.eval).toArray ++ cv).getD j undef = cv.getD (j - os.toList.length) undef := by
           simp only [Array.getD_eq_getD_getElem?]
           rw [Array.getElem?_append_right (by simpa using hj)]; simp
         rw [e]; exact this
     · rintro e w' ⟨x, h', g', v, hq, rfl, hx, hh, hfr, hn, hl, hp, h1, hfresh⟩
       have r2 := r1.called hfr hh hn hl hp h1 hfresh
       refine ⟨x, _, h', g', hQ x h' hq, ?_, by rw [size_put]; exact hN⟩
       cases hdst : o.dst with
       | none => exact r2
       | some d =>
         have hdl : d < a.tmps.size := by rw [hN]; exact hd d hdst
         cases x with
         | own m e sz xs =>
           obtain ⟨⟨q1, q2, vs, q3, q4, q5, q6⟩, hx2⟩ := hx
           refine r2.put hdl ⟨q1, q2, vs, ownsRow_base q3 r1.frame.size, q4, q5, q6⟩ fun b hb => ⟨fun i _ hi => ?_, fun k hk => hx2 b hb k hk⟩
           have hlt := (priv_lt (r1.slots i) hi).2
           have hge := (priv_lt (x := .own m e sz xs) (B := w.heap.size) (tm := tmOf a) ⟨q1, q2, vs, q3, q4, q5, q6⟩ hb).1
           omega
         | otup i m e sz xs rest =>
           obtain ⟨⟨us, rfl, p1, p2, q1, q2, vs, q3, q4, q5, q6⟩, hx2⟩ := hx
           refine r2.put hdl ⟨us, rfl, p1, p2, q1, q2, vs, ownsRow_base q3 r1.frame.size, q4, q5, q6⟩ fun b hb => ⟨fun i' _ hi => ?_, fun k hk => hx2 b hb k hk⟩
           have hlt := (priv_lt (r1.slots i') hi).2
           have hge := (priv_lt (x := .otup i m e sz xs rest) (B := w.heap.size) (tm := tmOf a) ⟨us, rfl, p1, p2, q1, q2, vs, q3, q4, q5, q6⟩ hb).1
           omega
         | _ => exact r2.put_rep hdl hx
   · exact hK.elim
end
end Go.Vm
namespace Go.Vm
open Go.RowKit
section
variable {P : Program} {H : Hst} {w0 w w' : World} {g0 g g' : Gh} {s : Slots} {h h' : Heap} {a : Act} {o : Oper} {K : AV → Slots → Heap → Prop} {Q : Exit → Act → World → Prop}
theorem sound_un {N : Nat} {op : UnOp} {t : TypeId} {x : Operand} (ho : o.op = .unOp op t x) (r : R H w0 g0 s h g a w) (hN : a.tmps.size = N) (hd : ∀ d, o.dst = some d → d < N)
   (hK : awpUn op (ev s x) fun v => K (.v v) s h) : o.wp P a w (Aft N H w0 g0 o K) Q := by
 have hx := r.eval x
 unfold awpUn at hK
 split at hK
 · rename_i b he
   rw [he] at hx
   exact aft_rep r hN hd (by simp [execOp, ho, (rep_v hx).1, Op.unary]) (.v rfl) hK
 · rename_i k n he
   rw [he] at hx
   exact aft_rep r hN hd (by simp [execOp, ho, (rep_v hx).1, Op.unary, Op.intArith]) (.v rfl) hK
 · rename_i k n he
   rw [he] at hx
   exact aft_rep r hN hd (by simp [execOp, ho, (rep_v hx).1, Op.unary, intBits_xor]) (.v rfl) hK
 · exact hK.elim
theorem bound_val {d n : Int} {x : Option Operand} (r : R H w0 g0 s h g a w) (hb : boundOf d (x.map (ev s)) = some n) :
   (x = none ∧ n = d) ∨ ∃ y k, x = some y ∧ a.eval y = .int k n := by
 cases x with
 | none => simp [boundOf] at hb; exact .inl ⟨rfl, hb.symm⟩
 | some y =>
   have hy := r.eval y
   simp only [zOa] at hb
   unfold boundOf at hb
   split at hb
   · rename_i e; cases e
   · rename_i k m e
     simp only [Option.some.injEq] at e hb
     subst hb
     rw [e] at hy
     exact .inr ⟨y, k, rfl, (rep_v hy).1⟩
   · cases hb
theorem flat_append (xs ys : List AV) : flat (xs ++ ys) = flat xs ++ flat ys := List.flatMap_append ..
theorem flat_take {xs : List AV} {sz : Nat} (hu : ∀ x ∈ xs, x.cells.length = sz) (m : Nat) (hm : m ≤ xs.length) : flat (xs.take m) = (flat xs).take (m * sz) ∧ flat (xs.drop m) = (flat xs).drop (m * sz) := by
 have hfl : flat xs = flat (xs.take m) ++ flat (xs.drop m) := by rw [← flat_append, List.take_append_drop]
 have hlen : (flat (xs.take m)).length = m * sz := by
   rw [flat_length (sz := sz) fun x hx => hu x (zWb hx)]; simp [hm]
 constructor
 · rw [hfl]; exact (List.take_left' hlen).symm
 · conv => rhs; rw [hfl]
   exact (List.drop_left' hlen).symm
theorem flat_slice {xs : List AV} {sz : Nat} (hu : ∀ x ∈ xs, x.cells.length = sz) (l m : Nat) (hl : l ≤ m) (hm : m ≤ xs.length) (j : Nat) (u : AV) (hj : (flat ((xs.take m).drop l))[j]? = some u) :
   (flat xs)[l * sz + j]? = some u := by
 rw [(flat_take (xs := xs.take m) (sz := sz) (fun x hx => hu x (zWb hx)) l (by simp; omega)).2, (flat_take hu m hm).1, zRa, zUa] at hj
 split at hj
 · exact hj
 · cases hj
theorem rep_slice {sz : Nat} {xs : List AV} {b : Option Addr} {c : Nat} (hr : Rep w g (.sl sz xs) (.slice b xs.length c)) (l m k : Nat) (hl : l ≤ m) (hm : m ≤ xs.length) (hk : m ≤ k) (hkc : k ≤ c) :
   Rep w g (.sl sz ((xs.take m).drop l)) (sliced b l m k sz) := by
 have hlen : ((xs.take m).drop l).length = m - l := by simp; omega
 generalize hv : Value.slice b xs.length c = v at hr
 cases hr with
 | nil =>
   simp only [Value.slice.injEq] at hv
   obtain ⟨rfl, -, rfl⟩ := hv
   obtain rfl : k = 0 := by omega
   obtain rfl : m = 0 := by omega
   obtain rfl : l = 0 := by omega
   simpa [sliced] using Rep.nil (w := w) (g := g) sz
 | empty _ ad c' hc' =>
   simp only [Value.slice.injEq] at hv
   obtain ⟨rfl, -, rfl⟩ := hv
   simp only [List.length_nil] at hm
   obtain rfl : m = 0 := by omega
   obtain rfl : l = 0 := by omega
   have := Rep.empty (w := w) (g := g) sz (if k = 0 then ad else ad.add (0 * sz)) k (by omega)
   unfold sliced
   by_cases h0 : k = 0
   · subst h0; simpa using Rep.empty (w := w) (g := g) sz ad 0 (zKb _)
   · simp only [h0, if_false, zOa, Nat.zero_mul, Nat.sub_zero, List.take_nil, List.drop_nil]
     exact .empty sz _ k (by omega)
 | @sl _ _ bb o c' vs hc hcm hsz hu hcell hs =>
   simp only [Value.slice.injEq] at hv
   obtain ⟨rfl, -, rfl⟩ := hv
   have hadd : (⟨bb, o, none⟩ : Addr).add (l * sz) = ⟨bb, o + l * sz, none⟩ := by
     unfold Addr.add; split
     · rename_i h0; rw [h0]; rfl
     · rfl
   unfold sliced
   by_cases hkl : k = l
   · have h0 : (xs.take m).drop l = [] := zQa (by omega)
     rw [h0, hkl, show m - l = 0 by omega]
     simp only [if_true, Nat.sub_self]
     exact .empty sz _ 0 (zKb _)
   · simp only [hkl, if_false, zOa, hadd]
     rw [← hlen]
     refine .sl (fun j => vs (l * sz + j)) (by omega) (by omega) hsz (fun x hx => hu x (zWb (List.mem_of_mem_drop hx))) (fun j u hj => ?_) (fun j u hj => hs _ _ (flat_slice hu l m hl hm j u hj))
     rw [Nat.add_assoc]
     exact hcell _ _ (flat_slice hu l m hl hm j u hj)
theorem rep_sl_shape {sz : Nat} {xs : List AV} {v : Value} (hr : Rep w g (.sl sz xs) v) : ∃ b c, v = .slice b xs.length c ∧ xs.length ≤ c := by
 cases hr with
 | nil => exact ⟨_, _, rfl, zPa _⟩
 | empty => exact ⟨_, _, rfl, zKb _⟩
 | sl vs hc => exact ⟨_, _, rfl, hc⟩
theorem sound_slice {N : Nat} {t : TypeId} {x : Operand} {lo hi mx : Option Operand} (ho : o.op = .slice t x lo hi mx) (r : R H w0 g0 s h g a w) (hN : a.tmps.size = N) (hd : ∀ d, o.dst = some d → d < N)
   (hK : awpSlice P t (frz s x).1 (lo.map (ev s)) (hi.map (ev s)) (mx.map (ev s)) fun v => K v (frz s x).2 h) : o.wp P a w (Aft N H w0 g0 o K) Q := by
 obtain ⟨g1, r1, k1, p1, n1⟩ := r.frz x
 unfold awpSlice at hK
 split at hK
 · rename_i sz xs hx
   rw [hx] at p1
   split at hK
   · rename_i e sz' l m hes hl hm
     obtain ⟨rfl, ⟨h0, h1, h2⟩, hmx, hK⟩ := hK
     obtain ⟨hu, inf, hinf, hisz⟩ := elemSz_spec hes
     obtain ⟨b, c, hv, hc⟩ := rep_sl_shape p1
     rw [hv] at p1
     have hue : P.underlying t = some (.slice (P.elem t)) := by
       have : P.elem t = e := by simp [Program.elem, hu]
       rw [this]; exact hu
     have hse : (sizeOf (P.elem t)).run P w = .ok sz' w := by
       have : P.elem t = e := by simp [Program.elem, hu]
       rw [this, run_sizeOf hinf, hisz]
     have fin : ∀ k : Nat, m.toNat ≤ k → k ≤ c → (Instr.sliceAt t (a.eval x) (lo.map a.eval) (hi.map a.eval) (mx.map a.eval)).run P w = .ok (sliced b l.toNat m.toNat k sz') w → o.wp P a w (Aft N H w0 g0 o K) Q := by
       intro k hk hkc hrun
       refine aft_world r1 hN hd (by simp only [execOp, ho, Sem.run_bind, hrun, Result.andThen_ok]; rfl) (slotRep_of_rep rfl (rep_slice p1 l.toNat m.toNat k (by omega) (by omega) hk hkc)) (fun b hb => by cases hb) hK
     rw [hv] at fin
     simp only [run_sliceAt_slice w t _ _ _ _ hue] at fin
     rcases bound_val r hl with ⟨hlo, rfl⟩ | ⟨yl, kl, hlo, hel⟩ <;> rcases bound_val r hm with ⟨hhi, rfl⟩ | ⟨yh, kh, hhi, heh⟩ <;> subst hlo <;> subst hhi
     · cases mx with
       | none =>
         refine fin c (by omega) (zPa _) ?_
         rw [show Option.map a.eval none = none from rfl, run_slice_all w t b xs.length c hue, hse]; simp
       | some y => simp at hmx
     · cases mx with
       | none =>
         refine fin c (by omega) (zPa _) ?_
         simp only [zTa, zOa, heh]
         rw [run_slice_h w t b xs.length c hue kh m (by omega) (by omega), hse]; rfl
       | some y => simp at hmx
     · cases mx with
       | none =>
         refine fin c (by omega) (zPa _) ?_
         simp only [zTa, zOa, hel]
         rw [run_slice_l w t b xs.length c hue kl l (by omega) (by omega), hse]; simp
       | some y => simp at hmx
     · cases mx with
       | none =>
         refine fin c (by omega) (zPa _) ?_
         simp only [zTa, zOa, hel, heh]
         rw [run_slice_lh w t b xs.length c hue kl kh l m h0 h1 (by omega), hse]; rfl
       | some y =>
         simp only [zOa] at hmx
         obtain ⟨-, -, hmx⟩ := hmx
         split at hmx
         · rename_i q hq
           have hq' : boundOf 0 ((some y).map (ev s)) = some q := hq
           rcases bound_val r hq' with ⟨e, -⟩ | ⟨ym, km, hym, hem⟩
           · cases e
           · cases hym
             refine fin q.toNat (by omega) (by omega) ?_
             simp only [zOa, hel, heh, hem]
             rw [run_slice_lhm w t b xs.length c hue kl kh km l m q h0 h1 hmx.1 (by omega), hse]; rfl
         · exact hmx.elim
   · exact hK.elim
 · rename_i id off n c hx
   rw [hx] at p1
   split at hK
   · rename_i e sz' l m hes hl hm
     obtain ⟨hmx, ⟨h0, h1, h2⟩, hK1, hK2⟩ := hK
     have hmx' : mx = none := by cases mx <;> simp_all
     subst hmx'
     obtain ⟨hu, inf, hinf, hisz⟩ := elemSz_spec hes
     generalize hv : a.eval x = v at p1
     have hue : P.underlying t = some (.slice (P.elem t)) := by
       have : P.elem t = e := by simp [Program.elem, hu]
       rw [this]; exact hu
     have hse : (sizeOf (P.elem t)).run P w = .ok sz' w := by
       have : P.elem t = e := by simp [Program.elem, hu]
       rw [this, run_sizeOf hinf, hisz]
     cases p1 with
     | osl _ _ _ _ hid hc hcm =>
       have fin : (Instr.sliceAt t (a.eval x) (lo.map a.eval) (hi.map a.eval) none).run P w = .ok (sliced (some ⟨g1.loc id, off, none⟩) l.toNat m.toNat c sz') w → o.wp P a w (Aft N H w0 g0 o K) Q := by
         intro hrun
         by_cases hlc : l = 0 ∨ l < c
         · refine aft_world r1 hN hd (by simp only [execOp, ho, Sem.run_bind, zTa, hrun, Result.andThen_ok]; rfl) (slotRep_of_rep rfl ?_) (fun b hb => by cases hb) (hK1 hlc)
           have he : sliced (some ⟨g1.loc id, off, none⟩) l.toNat m.toNat c sz' = .slice (some ⟨g1.loc id, off + l.toNat * sz', none⟩) (m.toNat - l.toNat) (c - l.toNat) := by
             unfold sliced
             by_cases hcl : c = l.toNat
             · have hl0 : l = 0 := by omega
               subst hl0; simp [hcl]
             · simp [hcl, addr_add]
           rw [he]
           exact .osl id _ _ _ hid (by omega) (by omega)
         · refine aft_world r1 hN hd (by simp only [execOp, ho, Sem.run_bind, zTa, hrun, Result.andThen_ok]; rfl) (slotRep_of_rep rfl ?_) (fun b hb => by cases hb) (hK2 hlc)
           have he : sliced (some ⟨g1.loc id, off, none⟩) l.toNat m.toNat c sz' = .slice (some ⟨g1.loc id, off, none⟩) 0 0 := by
             unfold sliced
             have hcl : c = l.toNat := by omega
             have hml : m.toNat = l.toNat := by omega
             simp [hcl, hml]
           rw [he]
           exact .empty sz' _ 0 (zKb _)
       rw [hv] at fin
       simp only [run_sliceAt_slice w t _ _ _ _ hue] at fin
       rcases bound_val r hl with ⟨hlo, rfl⟩ | ⟨yl, kl, hlo, hel⟩ <;> rcases bound_val r hm with ⟨hhi, rfl⟩ | ⟨yh, kh, hhi, heh⟩ <;> subst hlo <;> subst hhi
       · refine fin ?_
         rw [show Option.map a.eval none = none from rfl, run_slice_all w t _ n c hue, hse]; simp
       · refine fin ?_
         simp only [zTa, zOa, heh]
         rw [run_slice_h w t _ n c hue kh m (by omega) (by omega), hse]; rfl
       · refine fin ?_
         simp only [zTa, zOa, hel]
         rw [run_slice_l w t _ n c hue kl l (by omega) (by omega), hse]; simp
       · refine fin ?_
         simp only [zTa, zOa, hel, heh]
         rw [run_slice_lh w t _ n c hue kl kh l m h0 h1 (by omega), hse]; rfl
   · exact hK.elim
 · rename_i bs hx
   rw [hx] at p1
   have hv := (rep_v p1).1
   split at hK
   · rename_i l m hl hm
     obtain ⟨hu, hmx, ⟨h0, h1, h2⟩, hK⟩ := hK
     have hmx' : mx = none := by cases mx <;> simp_all
     subst hmx'
     have fin : (Instr.sliceAt t (.string bs) (lo.map a.eval) (hi.map a.eval) none).run P w = .ok (.string (bs.extract l.toNat m.toNat)) w → o.wp P a w (Aft N H w0 g0 o K) Q := by
       intro hrun
       refine aft_world r1 hN hd (by simp only [execOp, ho, Sem.run_bind, hv, zTa, hrun, Result.andThen_ok]; rfl) (slotRep_of_rep rfl (.v rfl)) (fun b hb => by cases hb) hK
     rw [run_sliceAt_string w t _ _ _ _ hu] at fin
     rcases bound_val r hl with ⟨hlo, rfl⟩ | ⟨yl, kl, hlo, hel⟩ <;> rcases bound_val r hm with ⟨hhi, rfl⟩ | ⟨yh, kh, hhi, heh⟩ <;> subst hlo <;> subst hhi <;> apply fin
     · simp_all [Instr.slice, run_underlying hu, Instr.sliceBounds, run_sliceBound]
     · simp_all [Instr.slice, run_underlying hu, Instr.sliceBounds, run_sliceBound]
     · simp_all [Instr.slice, run_underlying hu, Instr.sliceBounds, run_sliceBound]
     · have e1 := run_sliceBound (P := P) w kh m bs.size .sliceAlen (by omega) h2
       have e2 := run_sliceBound (P := P) w kl l m.toNat .sliceB h0 (by omega)
       simp only [zOa, hel, heh]
       simp [Instr.slice, run_underlying hu, Instr.sliceBounds, e1, e2]
   · exact hK.elim
 · exact hK.elim
theorem elemIn_spec {t : TypeId} {e sz bs : Nat} (h : elemIn P t = some (e, sz, bs)) : P.underlying t = some (.slice e) ∧ ∃ i z, P.info? e = some i ∧ i.zero = some z ∧ z.cells.size = i.size ∧ i.size = sz ∧ i.bytes = bs ∧ 0 < sz := by
 unfold elemIn at h
 split at h
 · rename_i e' hu
   split at h
   · rename_i i hi
     split at h
     · rename_i z hz
       split at h
       · rename_i hc
         simp only [Option.some.injEq, Prod.mk.injEq] at h
         obtain ⟨rfl, rfl, rfl⟩ := h
         exact ⟨hu, i, z, hi, hz, hc.1, rfl, rfl, hc.2⟩
       · cases h
     · cases h
   · cases h
 · cases h
theorem R.rewrite (r : R H w0 g0 s h g a w) {b e : Nat} {cur cur' : Array Value} {fr : Nat × Nat} (hp : ∀ i, privB (s i) (tmOf a i) ≠ some b) (hl : ∀ k, k < g.n → g.loc k ≠ b) (hB : w0.heap.size ≤ b)
   (hg : w.heap[b]? = some (.cells cur e fr)) (hsame : ∀ j v, j < g.pub b → cur[j]? = some v → cur'[j]? = some v) : R H w0 g0 s h g a (w.setRow b cur') ∧ Keeps w g (w.setRow b cur') g := by
 have hsz : (w.setRow b cur').heap.size = w.heap.size := by simp [World.setRow]
 have hk : Keeps w g (w.setRow b cur') g := ⟨fun _ => zPa _, fun k j v hj hv => by
   by_cases hb : k = b
   · subst hb
     rw [cell_setRow_same w k j cur cur' e fr hg]
     rw [cell_of_row w k j cur e fr hg] at hv
     exact hsame j v hj hv
   · rw [World.cell?_of_block (a := ⟨k, j, none⟩) (setRow_other w b k cur' hb)]; exact hv, zPa _, fun _ _ => rfl⟩
 refine ⟨r.world hk rfl (fun i k hk' => ⟨setRow_other w b k cur' fun e => hp i (e ▸ hk'), rfl⟩) (fun i hi => ⟨setRow_other w b _ cur' (hl i hi), rfl⟩) ?_ (by rw [hsz]; exact zPa _) (fun _ _ => rfl) (fun k hk' => r.fresh k (by rw [hsz] at hk'; exact hk')), hk⟩
 exact ⟨r.frame.os, r.frame.tape, r.frame.output, by rw [hsz]; exact r.frame.size, fun k hk' hno => by rw [setRow_other w b k cur' (by omega)]; exact r.frame.block k hk' hno⟩
theorem keeps_alloc (r : R H w0 g0 s h g a w) (x : Obj) : Keeps w g (w.alloc x) g := ⟨fun b => zPa _, fun b j v hj hv => by
 have hb : b < w.heap.size := by
   rcases zMa b w.heap.size with h' | h'
   · exact h'
   · have := r.fresh b h'; omega
 rw [World.cell?_of_block (a := ⟨b, j, none⟩) (Below.heap_alloc w _ b hb)]; exact hv, zPa _, fun _ _ => rfl⟩
theorem keeps_drew (w : World) (g : Gh) : Keeps w g w.drew g := ⟨fun b => zPa _, fun b j v hj hv => hv, zPa _, fun _ _ => rfl⟩
theorem src_sound {tx sz : Nat} {y : Operand} {KY : List AV → Prop} (r : R H w0 g0 s h g a w) (hsz : 0 < sz) (hK : srcOf P tx sz (look s (ev s y)) KY) :
   ∃ ys news, KY ys ∧ ((∀ c ∈ ys, c.cells.length = sz) → Src P sz tx (a.eval y) ys.length news w ∧ ∀ j u, (flat ys)[j]? = some u → Rep w g u (news.getD j undef)) := by
 have hv := r.eval y
 have fromOwn : ∀ (m : Bool) (e sz' : Nat) (xs : List AV) (v : Value), v = a.eval y → OwnRep w g w0.heap.size m e sz' xs v → (∃ e', P.underlying tx = some (.slice e')) → sz' = sz → KY xs →
     ∃ ys news, KY ys ∧ ((∀ c ∈ ys, c.cells.length = sz) → Src P sz tx (a.eval y) ys.length news w ∧ ∀ j u, (flat ys)[j]? = some u → Rep w g u (news.getD j undef)) := by
   rintro m e sz' xs v hve ⟨q1, q2, vs, q3, q4, q5, q6⟩ ⟨e', he'⟩ rfl hk
   refine ⟨xs, vs, hk, fun _ => ⟨?_, q5⟩⟩
   rw [← hve]
   rcases q3.2 with ⟨rfl, h0⟩ | ⟨gb, cap, cur, rfl, b1, b2, b3, b4, b5, b6⟩
   · have hx : xs = [] := zQa h0
     subst hx
     have : vs = [] := zQa (by simpa using q3.1)
     subst this
     exact Src.ofNil w he' 0
   · refine Src.ofSlice w he' ⟨gb, 0, none⟩ xs.length cap vs q3.1 (fun j u hu => ?_) q4
     have hj : j < vs.length := by
       rcases zMa j vs.length with h' | h'
       · exact h'
       · simp [zNa h'] at hu
     have hc := ownsRow_cell q3 rfl j hj
     have e : (⟨gb, 0, none⟩ : Addr).add j = ⟨gb, j, none⟩ := by
       unfold Addr.add; split
       · rename_i h0; subst h0; rfl
       · simp
     rw [e, hc, zIa, hu]; rfl
 have sliceT : ((P.underlying tx).any fun d => d matches .slice _) = true → ∃ e', P.underlying tx = some (.slice e') := fun ht => by
   obtain ⟨d, hd, hm⟩ := (zJb _ _).1 ht
   cases d <;> simp at hm
   exact ⟨_, hd⟩
 unfold srcOf at hK
 split at hK
 · rename_i sz' ys hl
   obtain ⟨rfl, ht, hk⟩ := hK
   obtain ⟨e', he'⟩ := sliceT ht
   cases hx : ev s y with
   | own m e sz2 xs =>
     rw [hx] at hv hl
     simp only [Vm.look, AV.sl.injEq] at hl
     obtain ⟨rfl, rfl⟩ := hl
     exact fromOwn m e _ _ _ rfl hv ⟨e', he'⟩ rfl hk
   | alias k =>
     rw [hx] at hv hl
     have hkk := r.slots k
     simp only [Vm.look] at hl
     cases hsk : s k with
     | own m e sz2 xs =>
       rw [hsk] at hkk hl
       simp only [lookAl, AV.sl.injEq] at hl
       obtain ⟨rfl, rfl⟩ := hl
       exact fromOwn m e _ _ (tmOf a k) (show tmOf a k = a.eval y from (show a.eval y = tmOf a k from hv).symm) hkk ⟨e', he'⟩ rfl hk
     | _ => rw [hsk] at hl; simp [lookAl] at hl
   | sl sz2 xs =>
     rw [hx] at hv hl
     simp only [Vm.look, AV.sl.injEq] at hl
     obtain ⟨rfl, rfl⟩ := hl
     have hv' : Rep w g (.sl sz2 xs) (a.eval y) := hv
     generalize a.eval y = v at hv'
     cases hv' with
     | nil => exact ⟨[], [], hk, fun _ => ⟨Src.ofNil w he' 0, by simp [flat]⟩⟩
     | empty _ ad c hc => exact ⟨[], [], hk, fun _ => ⟨Src.ofSlice w he' ad 0 c [] (by simp) (by simp) (by simp), by simp [flat]⟩⟩
     | @sl _ _ b off c vs hc hm hsz' hu hr hs =>
       have hfl := flat_length hu
       refine ⟨xs, (List.range (xs.length * sz2)).map vs, hk, fun _ => ⟨Src.ofSlice w he' ⟨b, off, none⟩ xs.length c _ (by simp) (fun j u hj => ?_) (fun u hu' => ?_), fun j u hj => ?_⟩⟩
       · have hjl : j < xs.length * sz2 := by
           rcases zMa j (xs.length * sz2) with h' | h'
           · exact h'
           · rw [zNa (by simpa using h')] at hj; cases hj
         have e : (⟨b, off, none⟩ : Addr).add j = ⟨b, off + j, none⟩ := by
           unfold Addr.add; split
           · rename_i h0; subst h0; rfl
           · rfl
         rw [e, (hr j _ (zJa (by omega))).1]
         simp [hjl] at hj; rw [hj]
       · obtain ⟨j, hj, rfl⟩ := List.mem_map.1 hu'
         exact (hr j _ (zJa (by rw [hfl]; simpa using hj))).2.2
       · have hjl : j < xs.length * sz2 := by
           rw [← hfl]
           rcases zMa j (flat xs).length with h' | h'
           · exact h'
           · rw [zNa h'] at hj; cases hj
         simpa [zIa, hjl] using hs j u hj
   | _ => rw [hx] at hl; simp [Vm.look] at hl
 · rename_i hl
   obtain ⟨ht, hk⟩ := hK
   obtain ⟨e', he'⟩ := sliceT ht
   have hlk := r.look y
   rw [hl] at hlk
   rw [hlk.1]
   exact ⟨[], [], hk, fun _ => ⟨Src.ofNil w he' 0, by simp [flat]⟩⟩
 · rename_i b hl
   obtain ⟨rfl, ht, hk⟩ := hK
   have hlk := r.look y
   rw [hl] at hlk
   rw [hlk.1]
   have hflat : ∀ l : List UInt8, flat (l.map encB) = l.map encB := fun l => by
     induction l with
     | nil => rfl
     | cons y ys ih => simp only [flat, List.map_cons, zYa] at ih ⊢; rw [ih]; rfl
   refine ⟨_, byteCells b, hk, fun _ => ⟨?_, fun j u hj => ?_⟩⟩
   · have := Src.ofString (P := P) w ht b
     simpa using this
   · rw [hflat] at hj
     simp only [zUb, Option.map_eq_some_iff] at hj
     obtain ⟨c, hc, rfl⟩ := hj
     simp only [byteCells, zIa, zUb, hc, zOa, Option.getD_some]
     exact .v rfl
 · exact hK.elim
theorem sound_append {N : Nat} {x y : Operand} {os : Array Operand} {ts : Array TypeId} {t tx : TypeId} (ho : o.op = .call { callee := .builtin .append, args := os, argTypes := ts }) (hos : os.toList = [x, y]) (hts : ts.toList = [t, tx])
   (r : R H w0 g0 s h g a w) (hN : a.tmps.size = N) (hd : ∀ d, o.dst = some d → d < N)
   (hK : awpAppend P t tx (tk s x) (fun s' => look s' (ev s' y)) fun v s' => K v s' h) : o.wp P a w (Aft N H w0 g0 o K) Q := by
 obtain ⟨htk, hpr⟩ := r.tk x
 have r1 := r.le (le_tk s x)
 have hA : os = #[x, y] := by cases os; simp_all
 have hT : ts = #[t, tx] := by cases ts; simp_all
 unfold awpAppend at hK
 split at hK
 · rename_i e sz bs he
   obtain ⟨hu, inf, z, hinf, hz, hzs, hisz, hib, hsz⟩ := elemIn_spec he
   subst hisz; subst hib
   -- what is appended to: nil, or a block of the call's own
   have main : ∀ (m : Bool) (xs : List AV), OwnRep w g w0.heap.size m e inf.size xs (a.eval x) → (∀ b, (a.eval x).ownBlock = some b → (∀ i, privB ((tk s x).2 i) (tmOf a i) ≠ some b) ∧ ∀ k, k < g.n → g.loc k ≠ b) →
       (srcOf P tx inf.size (look (tk s x).2 (ev (tk s x).2 y)) fun ys => (∀ c ∈ ys, c.cells.length = inf.size) ∧ (xs.length + ys.length) * (inf.bytes + 1) ≤ 140737488355328 ∧ K (.own m e inf.size (xs ++ ys)) (tk s x).2 h) →
       o.wp P a w (Aft N H w0 g0 o K) Q := by
     rintro m xs ⟨q1, q2, vs, q3, q4, q5, q6⟩ hpr hK
     obtain ⟨ys, news, ⟨hyl, hbd, hk⟩, hsrc⟩ := src_sound r1 hsz hK
     obtain ⟨hsrc, hnews⟩ := hsrc hyl
     have hln := hsrc.newsLen
     have hvl := q3.1
     have hfx := flat_length q2
     have hfy := flat_length hyl
     have hbd1 : (xs.length + ys.length) * inf.bytes ≤ 140737488355328 := zXa (Nat.mul_le_mul_left _ (Nat.le_succ _)) hbd
     have hbd2 : xs.length + ys.length ≤ 140737488355328 := by
       have : (xs.length + ys.length) * 1 ≤ (xs.length + ys.length) * (inf.bytes + 1) := Nat.mul_le_mul_left _ (by omega)
       omega
     have huni : ∀ c ∈ xs ++ ys, c.cells.length = inf.size := fun c hc => by
       rcases List.mem_append.1 hc with hc | hc
       · exact q2 c hc
       · exact hyl c hc
     have hone : ∀ u ∈ vs ++ news, u.oneCell' = true := fun u hu' => by
       rcases List.mem_append.1 hu' with hu' | hu'
       · exact q4 u hu'
       · exact hsrc.one u hu'
     have hall : ∀ {w2 : World} {g2 : Gh}, Keeps w g w2 g2 → ∀ j u, (flat (xs ++ ys))[j]? = some u → Rep w2 g2 u ((vs ++ news).getD j undef) := fun {w2 g2} hkp j u hj => by
       rw [flat_append] at hj
       rw [zIa]
       rcases zMa j (flat xs).length with hlt | hge
       · rw [zLa hlt] at hj
         rw [zLa (by omega)]
         simpa [zIa] using (q5 j u hj).keep hkp
       · rw [zKa hge] at hj
         rw [zKa (by omega), show j - vs.length = j - (flat xs).length by omega]
         simpa [zIa] using (hnews _ u hj).keep hkp
     have hex : ∀ v w', (Builtin.append_ #[t, tx] o.type #[a.eval x, a.eval y]).run P w = .ok v w' → (execOp a.eval o).run P w = .ok (.value v) w' := fun v w' hv => by
       simp [execOp, ho, hA, hT, resolve, invoke, builtin, hv]
     -- a new block
     have grow : ∀ (b : Option Addr) (c : Nat), a.eval x = .slice b xs.length c → c < xs.length + ys.length → (Builtin.firstCells inf.size xs.length (.slice b xs.length c)).run P w.drew = .ok vs.toArray w.drew →
         o.wp P a w (Aft N H w0 g0 o K) Q := by
       intro b c hv hc hold
       have hrun := run_append_grow_src (P := P) w t tx o.type e inf z hu hinf hz b xs.length c vs hold (a.eval y) ys.length news hsrc hc (by omega) (growslice_fits hc hbd1)
       rw [← hv] at hrun
       have hcm : grownCap w (xs.length + ys.length) c e ≤ maxLen := grownCap_le_maxLen w _ c e (by unfold maxLen; omega)
       have hge := grownCap_ge w (xs.length + ys.length) c e
       have r2 := (r1.drew).alloc (.cells ((vs ++ news).toArray ++ Builtin.zeroCells z.cells (grownCap w (xs.length + ys.length) c e - (xs.length + ys.length))) e)
       have hkp := (keeps_drew w g).trans (keeps_alloc r1.drew (.cells ((vs ++ news).toArray ++ Builtin.zeroCells z.cells (grownCap w (xs.length + ys.length) c e - (xs.length + ys.length))) e))
       have hnew := r1.drew.sep_new
       refine aft_world r2 hN hd (hex _ _ hrun) (x := .own m e inf.size (xs ++ ys)) ?_ (fun b' hb' => ?_) hk
       · refine ⟨hsz, huni, vs ++ news, ?_, hone, hall hkp, fun b' hb' => ?_⟩
         · rw [zVa]
           refine ⟨by rw [zVa, hvl, hln, zIb], .inr ⟨w.heap.size, _, _, rfl, r1.frame.size, heap_alloc_new w.drew _, hge, hcm, ?_, ?_⟩⟩
           · simp only [Array.size_append, List.size_toArray, zVa, size_zeroCells, hzs, hvl, hln, ← zIb]
             congr 1; omega
           · simp only [Array.toList_append]
             have : (xs.length + ys.length) * inf.size = (vs ++ news).length := by rw [zVa, hvl, hln, zIb]
             rw [this]; exact List.take_left
         · simp only [Value.ownBlock, Option.some.injEq] at hb'
           subst hb'
           have : g.pub w.heap.size = 0 := r1.fresh _ (zPa _)
           rw [this]; exact zKb _
       · simp only [privB, Value.ownBlock, Option.some.injEq] at hb'
         subst hb'
         exact hnew
     rcases q3.2 with ⟨hv, h0⟩ | ⟨gb, cap, cur, hv, b1, b2, b3, b4, b5, b6⟩
     · have hx0 : xs = [] := zQa h0
       subst hx0
       have hvs : vs = [] := zQa (by simpa using hvl)
       subst hvs
       by_cases hy : ys.length = 0
       · have hy0 : ys = [] := zQa hy
         subst hy0
         have hn0 : news = [] := zQa (by simpa using hln)
         subst hn0
         refine aft_value r1 hN hd (hex (.slice none 0 0) w ?_) (x := .own m e inf.size []) ?_ (fun b hb => by simp [privB, Value.ownBlock] at hb) (by simpa using hk)
         · have hl := hsrc.len w
           have hc := hsrc.cells
           simp only [List.length_nil] at hl hc
           rw [hv]
           rcases hsrc.kind with ⟨e', hk'⟩ | hk' <;> simp [Builtin.append_, run_underlying hu, run_underlying hk', sizeOf, typeInfo, hinf, hl, hc]
         · exact ⟨hsz, by simp, [], World.ownsRow_nil _ _ _ _, by simp, by simp [flat], fun b hb => by simp [Value.ownBlock] at hb⟩
       · exact grow none 0 (by simpa using hv) (by simp; omega) (by simpa using run_firstCells_none (P := P) w.drew inf.size 0 0 0)
     · by_cases hroom : xs.length + ys.length ≤ cap
       · -- in place
         obtain ⟨p1, p2⟩ := hpr gb (by rw [hv]; rfl)
         have hpub := q6 gb (by rw [hv]; rfl)
         have hvtake : ∀ j v, cur[j]? = some v → j < xs.length * inf.size → vs[j]? = some v := fun j v hj hlt => by
           have : (cur.toList.take (xs.length * inf.size))[j]? = some v := by rw [zUa, if_pos hlt]; simpa using hj
           rw [b6] at this; exact this
         have hfit : xs.length * inf.size + news.length ≤ cur.size := by rw [hln, b5, ← zIb]; exact zLb _ hroom
         have hst := run_storeCells_at P gb (xs.length * inf.size) e news 0 cur w b2 (by simpa using hfit) hsrc.one
         have hrun : (Builtin.append_ #[t, tx] o.type #[a.eval x, a.eval y]).run P w = .ok (.slice (some ⟨gb, 0, none⟩) (xs.length + ys.length) cap) (w.setRow gb (cur.toList.take (xs.length * inf.size) ++ news ++ cur.toList.drop (xs.length * inf.size + news.length)).toArray) := by
           simp only [Nat.add_zero] at hst
           rw [hv]
           rcases hsrc.kind with ⟨e', hk'⟩ | hk' <;> simp [Builtin.append_, run_underlying hu, run_underlying hk', sizeOf, typeInfo, hinf, hsrc.len, hroom, hsrc.cells, Addr.add_lit, hst]
         have hcur' : (cur.toList.take (xs.length * inf.size) ++ news ++ cur.toList.drop (xs.length * inf.size + news.length)) = vs ++ news ++ cur.toList.drop (xs.length * inf.size + news.length) := by rw [b6]
         obtain ⟨r2, hkp⟩ := r1.rewrite (cur' := (cur.toList.take (xs.length * inf.size) ++ news ++ cur.toList.drop (xs.length * inf.size + news.length)).toArray) p1 p2 b1 b2 (fun j v hj hcj => by
           have hjl : j < xs.length * inf.size := by split at hpub <;> omega
           rw [hcur']
           simp only [List.getElem?_toArray, zNb]
           rw [zLa (by omega)]
           exact hvtake j v hcj hjl)
         refine aft_world r2 hN hd (hex _ _ hrun) (x := .own m e inf.size (xs ++ ys)) ?_ (fun b' hb' => ?_) hk
         · refine ⟨hsz, huni, vs ++ news, ?_, hone, hall hkp, fun b' hb' => ?_⟩
           · rw [zVa]
             refine ⟨by rw [zVa, hvl, hln, zIb], .inr ⟨gb, cap, _, rfl, b1, setRow_heap w gb cur _ e _ b2, hroom, b4, ?_, ?_⟩⟩
             · rw [hcur']; simp only [List.size_toArray, zVa, List.length_drop, Array.length_toList]; omega
             · rw [hcur']
               have : (xs.length + ys.length) * inf.size = (vs ++ news).length := by rw [zVa, hvl, hln, zIb]
               rw [this]; exact List.take_left
           · simp only [Value.ownBlock, Option.some.injEq] at hb'
             subst hb'
             rw [zVa]
             split at hpub
             · rename_i hm; simp [hm]; omega
             · rename_i hm; rw [if_neg hm, zIb]; omega
         · simp only [privB, Value.ownBlock, Option.some.injEq] at hb'
           subst hb'
           exact ⟨p1, p2⟩
       · have hold : (Builtin.firstCells inf.size xs.length (.slice (some ⟨gb, 0, none⟩) xs.length cap)).run P w.drew = .ok vs.toArray w.drew := by
           refine run_firstCells_some w.drew inf.size xs.length ⟨gb, 0, none⟩ xs.length cap vs hvl (fun j u hj => ?_)
           have hjl : j < vs.length := by
             rcases zMa j vs.length with h' | h'
             · exact h'
             · simp [zNa h'] at hj
           have hc := ownsRow_cell q3 hv j hjl
           have e' : (⟨gb, 0, none⟩ : Addr).add j = ⟨gb, j, none⟩ := by
             unfold Addr.add; split
             · rename_i h0; subst h0; rfl
             · simp
           rw [e']
           show w.cell? _ = _
           rw [hc, zIa, hj]; rfl
         exact grow _ cap hv (by omega) hold
   unfold appTo at hK
   split at hK
   · rename_i m e' sz' xs s' hp
     rw [hp] at htk hpr main
     obtain ⟨rfl, rfl, hK⟩ := hK
     exact main m xs htk hpr hK
   · rename_i s' hp
     rw [hp] at htk main
     have hv : a.eval x = .slice none 0 0 := (rep_v (rep_of_slotRep rfl htk)).1
     refine main true [] ?_ (fun b hb => by rw [hv] at hb; cases hb) hK
     rw [hv]
     exact ⟨hsz, by simp, [], World.ownsRow_nil _ _ _ _, by simp, by simp [flat], fun b hb => by simp [Value.ownBlock] at hb⟩
   · exact hK.elim
 · exact hK.elim
theorem flat_replicate (y : AV) : ∀ n j, j < n * y.cells.length → (flat (zXb n y))[j]? = y.cells[j % y.cells.length]?
 | 0, j, h => by simp at h
 | n + 1, j, h => by
   simp only [List.replicate_succ, flat, zYa]
   rcases zMa j y.cells.length with hlt | hge
   · rw [zLa hlt, Nat.mod_eq_of_lt hlt]
   · rw [zKa hge]
     have e : j % y.cells.length = (j - y.cells.length) % y.cells.length := by
       conv => lhs; rw [← Nat.sub_add_cancel hge]
       rw [Nat.add_mod_right]
     rw [e]
     exact flat_replicate y n _ (by rw [zIb] at h; omega)
theorem cst_cells {z : Value} (hz : plain z = true ∨ ∃ cs, z = .agg cs ∧ cs.all plain = true) : (cst z).cells = z.cells.toList.map AV.v ∧ ∀ u ∈ z.cells.toList, plain u = true := by
 rcases hz with hz | ⟨cs, rfl, hc⟩
 · have h1 : cst z = .v z := by
     unfold cst; split
     · simp [plain] at hz
     · simp [plain] at hz
     · simp [hz]
   have h2 : z.cells = #[z] := by cases z <;> first | rfl | simp [plain] at hz
   rw [h1, h2]
   exact ⟨rfl, fun u hu => by simp at hu; subst hu; exact hz⟩
 · refine ⟨by simp [cst, hc, AV.cells, Value.cells], fun u hu => ?_⟩
   have : ∀ j (hj : j < cs.size), plain cs[j] = true := fun j hj => Array.all_eq_true.1 hc j hj
   have hu' : u ∈ cs.toList := hu
   obtain ⟨j, hj, rfl⟩ := List.getElem_of_mem hu'
   have := this j (by simpa using hj)
   simpa using this
theorem sound_make {N : Nat} {t : TypeId} {l c : Operand} (ho : o.op = .makeSlice t l c) (r : R H w0 g0 s h g a w) (hN : a.tmps.size = N) (hd : ∀ d, o.dst = some d → d < N)
   (hK : awpMake P t (ev s l) (ev s c) fun v => K v s h) : o.wp P a w (Aft N H w0 g0 o K) Q := by
 have hl := r.eval l
 have hc := r.eval c
 unfold awpMake at hK
 split at hK
 · rename_i e sz bs kl n kc m he el ec
   rw [el] at hl; rw [ec] at hc
   obtain ⟨⟨h0, h1, h2, h3⟩, hK⟩ := hK
   obtain ⟨hu, inf, z, hinf, hz, hzs, hisz, hib, hsz⟩ := elemIn_spec he
   subst hisz; subst hib
   obtain ⟨hpl, hK⟩ := hK z (by simp [hinf, hz])
   obtain ⟨hcc, hcp⟩ := cst_cells hpl
   have hcl : (cst z).cells.length = inf.size := by rw [hcc]; simp [hzs]
   have hb : (inf.bytes : Int) * m ≤ 281474976710656 := by rw [Int.mul_comm]; omega
   have hrun := run_make (P := P) w t e inf z hu hinf hz kl kc n m h0 h1 hb h2
   have hex : (execOp a.eval o).run P w = .ok (.value (.slice (some ⟨w.heap.size, 0, none⟩) n.toNat m.toNat)) (w.alloc (.cells (madeCells z.cells (m.toNat * inf.size)) e)) := by
     simp only [execOp, ho, Sem.run_bind, (rep_v hl).1, (rep_v hc).1, hrun, Result.andThen_ok]; rfl
   have hmade : ∀ j, j < m.toNat * inf.size → (madeCells z.cells (m.toNat * inf.size))[j]? = z.cells[j % inf.size]? := fun j hj => by
     have hmod : j % inf.size < z.cells.size := by rw [hzs]; exact Nat.mod_lt _ hsz
     simp only [madeCells, Array.getElem?_map, Array.getElem?_range, hj, if_true, zOa, hzs]
     rw [getElem!_pos _ _ (by rw [hzs]; exact Nat.mod_lt _ hsz), Array.getElem?_eq_getElem hmod]
   have hle : n.toNat * inf.size ≤ m.toNat * inf.size := zLb _ (by omega)
   have hvs : ∀ j, j < n.toNat * inf.size → ((madeCells z.cells (m.toNat * inf.size)).toList.take (n.toNat * inf.size))[j]? = z.cells[j % inf.size]? := fun j hj => by
     rw [zUa, if_pos hj]
     rw [Array.getElem?_toList, hmade j (by omega)]
   refine aft_world (r.alloc _) hN hd hex (x := .own true e inf.size (zXb n.toNat (cst z))) ?_ (fun b hb => ?_) hK
   · refine ⟨hsz, fun x hx => by rw [List.eq_of_mem_replicate hx]; exact hcl, (madeCells z.cells (m.toNat * inf.size)).toList.take (n.toNat * inf.size), ?_, fun u hu' => ?_, fun j u hj => ?_, fun b hb => ?_⟩
     · rw [List.length_replicate]
       refine ⟨by rw [zRb, Array.length_toList, size_madeCells]; omega, .inr ⟨w.heap.size, m.toNat, _, rfl, r.frame.size, heap_alloc_new w _, by omega, by unfold maxLen; omega, size_madeCells _ _, rfl⟩⟩
     · obtain ⟨j, hj, rfl⟩ := List.getElem_of_mem hu'
       have hj' : j < n.toNat * inf.size := by rw [zRb] at hj; omega
       have := hvs j hj'
       rw [zJa hj] at this
       have hmod : j % inf.size < z.cells.size := by rw [hzs]; exact Nat.mod_lt _ hsz
       rw [Array.getElem?_eq_getElem hmod] at this
       simp only [Option.some.injEq] at this
       rw [this]
       exact plain_oneCell (hcp _ (by simp))
     · have hfl : (flat (zXb n.toNat (cst z))).length = n.toNat * inf.size := by
         rw [flat_length (sz := inf.size) fun x hx => by rw [List.eq_of_mem_replicate hx]; exact hcl]; simp
       have hj' : j < n.toNat * inf.size := by
         rw [← hfl]
         rcases zMa j (flat (zXb n.toNat (cst z))).length with h' | h'
         · exact h'
         · rw [zNa h'] at hj; cases hj
       rw [flat_replicate _ _ _ (by rw [hcl]; exact hj'), hcl, hcc] at hj
       have hmod : j % inf.size < z.cells.size := by rw [hzs]; exact Nat.mod_lt _ hsz
       rw [zIa, hvs j hj', Array.getElem?_eq_getElem hmod]
       simp [hmod] at hj
       subst hj
       exact .v (hcp _ (by simp))
     · simp only [Value.ownBlock, Option.some.injEq] at hb
       subst hb
       rw [r.fresh _ (zPa _)]; exact zKb _
   · simp only [privB, Value.ownBlock, Option.some.injEq] at hb
     subst hb
     exact r.sep_new
 · exact hK.elim
end
end Go.Vm
namespace Go.Vm
open Go.RowKit
variable {P : Program} {H : Hst} {w0 w w' : World} {g0 g g' : Gh} {s : Slots} {h : Heap} {a : Act} {o : Oper} {K : AV → Slots → Heap → Prop} {Q : Exit → Act → World → Prop}
theorem new_box (r : R H w0 g0 s h g a w) {cs : List AV} {v : Value} {e : TypeId} (hc : v.cells.size = cs.length) (h1 : ∀ u ∈ v.cells.toList, u.oneCell' = true)
   (hr : ∀ j u, cs[j]? = some u → Rep w g u (v.cells.toList.getD j undef)) :
   slotRep (w.alloc (.cells v.cells e)) g w0.heap.size (tmOf a) (.box cs) (.pointer (some ⟨w.heap.size, 0, none⟩)) := by
 refine ⟨w.heap.size, rfl, r.frame.size, v.cells, e, heap_alloc_new w _, by omega, r.fresh _ (zPa _), fun j hj => ?_, fun j u hu => ?_⟩
 · refine h1 _ ?_
   simp [Array.getD, show j < v.cells.size by omega]
 · have := (hr j u hu).keep (keeps_alloc r (.cells v.cells e))
   simpa [Array.getD_eq_getD_getElem?, zIa] using this
theorem sound_newBox {N : Nat} {x : AV} {v : Value} {e : TypeId} (r : R H w0 g0 s h g a w) (hN : a.tmps.size = N) (hd : ∀ d, o.dst = some d → d < N)
   (hrun : (execOp a.eval o).run P w = .ok (.value (.pointer (some ⟨w.heap.size, 0, none⟩))) (w.alloc (.cells v.cells e)))
   {cs : List AV} (hc : v.cells.size = cs.length) (h1 : ∀ u ∈ v.cells.toList, u.oneCell' = true)
   (hr : ∀ j u, cs[j]? = some u → Rep w g u (v.cells.toList.getD j undef)) (hK : K (.box cs) s h) : o.wp P a w (Aft N H w0 g0 o K) Q := by
 refine aft_world (r.alloc _) hN hd hrun (new_box r hc h1 hr) (fun b hb => ?_) hK
 simp only [privB, Option.some.injEq] at hb
 subst hb
 exact r.sep_new
theorem sound_box {N : Nat} {t : TypeId} {x : Operand} (ho : o.op = .box t x) (r : R H w0 g0 s h g a w) (hN : a.tmps.size = N) (hd : ∀ d, o.dst = some d → d < N)
   (hK : awpBox (frz s x).1 fun v => K v (frz s x).2 h) : o.wp P a w (Aft N H w0 g0 o K) Q := by
 obtain ⟨g1, r1, k1, p1, -⟩ := r.frz x
 obtain ⟨q1, q2, q3⟩ := solid_rep hK.1 p1
 exact sound_newBox (x := .any) (v := a.eval x) (e := t) r1 hN hd (by simp only [execOp, ho, Instr.box, newVar, newRow, newObj, Sem.run_bind]; rfl) q1 q2 q3 hK.2
theorem sound_alloc {N : Nat} {t : TypeId} (ho : o.op = .alloc t) (r : R H w0 g0 s h g a w) (hN : a.tmps.size = N) (hd : ∀ d, o.dst = some d → d < N)
   (hK : awpAlloc ((P.info? t).bind (·.zero)) fun v => K v s h) : o.wp P a w (Aft N H w0 g0 o K) Q := by
 unfold awpAlloc at hK
 split at hK
 · rename_i z hz
   obtain ⟨hp, hK⟩ := hK
   obtain ⟨c1, c2⟩ := cst_cells hp
   have hinf : ∃ i, P.info? t = some i ∧ i.zero = some z := by
     cases hi : P.info? t with
     | none => rw [hi] at hz; cases hz
     | some i => rw [hi] at hz; exact ⟨i, rfl, hz⟩
   obtain ⟨i, hi, hiz⟩ := hinf
   have hzr : (zeroValue t).run P w = .ok z w := by simp [zeroValue, typeInfo, hi, hiz]
   refine sound_newBox (x := .any) (v := z) (e := t) r hN hd (by simp only [execOp, ho, Instr.alloc, newVar, newRow, newObj, Sem.run_bind, hzr, Result.andThen_ok]; rfl) (by rw [c1]; simp) (fun u hu => plain_oneCell (c2 u hu)) (fun j u hu => ?_) hK
   rw [c1, zUb] at hu
   cases hj : z.cells.toList[j]? with
   | none => rw [hj] at hu; cases hu
   | some y =>
     rw [hj] at hu
     simp only [zOa, Option.some.injEq] at hu
     subst hu
     rw [zIa, hj]
     exact .v (c2 y (List.mem_of_getElem? hj))
 · exact hK.elim
theorem keeps_setRow {b e : Nat} {cur cur' : Array Value} {fr : Nat × Nat} (hp : g.pub b = 0) : Keeps w g (w.setRow b cur') g :=
 ⟨fun _ => zPa _, fun k j v hj hv => by
   by_cases hb : k = b
   · subst hb; omega
   · rw [World.cell?_of_block (a := ⟨k, j, none⟩) (setRow_other w b k cur' hb)]; exact hv, zPa _, fun _ _ => rfl⟩
theorem row_putL {cs : List AV} {b off : Nat} {xs : List AV} {us : List Value} (hrow : RowAt w g cs b) (q1 : us.length = xs.length) (q2 : ∀ u ∈ us, u.oneCell' = true) (q3 : ∀ j u, xs[j]? = some u → Rep w g u (us.getD j undef)) (hfit : off + xs.length ≤ cs.length) :
   ∃ cur', (storeCells ⟨b, off, none⟩ us 0).run P w = .ok () (w.setRow b cur') ∧ RowAt (w.setRow b cur') g (putCells cs off xs) b ∧ Keeps w g (w.setRow b cur') g ∧
     ∀ vs e, w.heap[b]? = some (.cells vs e (0, 0)) → cur'.size = vs.size ∧ (w.setRow b cur').heap[b]? = some (.cells cur' e (0, 0)) := by
 obtain ⟨vs, e, hb, hl, hpub, h1, hrep⟩ := hrow
 have hk : Keeps w g (w.setRow b (vs.toList.take off ++ us ++ vs.toList.drop (off + us.length)).toArray) g := keeps_setRow (e := e) (cur := vs) (fr := (0, 0)) hpub
 have hst := run_storeCells_at P b off e us 0 vs w hb (by simp [q1]; omega) q2
 simp only [Nat.add_zero] at hst
 have hvl : us.length = xs.length := q1
 refine ⟨_, hst, ⟨_, e, setRow_heap w b vs _ e _ hb, ?_, hpub, ?_, ?_⟩, hk, fun vs' e' hb' => ?_⟩
 · simp [putCells, q1]; omega
 · intro j hj
   have hpl : (putCells cs off xs).length = cs.length := by simp [putCells]; omega
   rw [hpl] at hj
   have hgd : ∀ (l : List Value), l.toArray.getD j undef = l.getD j undef := fun l => by simp [Array.getD_eq_getD_getElem?, zIa]
   rw [hgd, zIa, zNb]
   have hvl : us.length = xs.length := q1
   have hvs : vs.toList.length = vs.size := by simp
   have ht : (vs.toList.take off).length = off := by simp only [zRb]; omega
   have hold : ∀ k, k < cs.length → (vs.toList[k]?.getD undef).oneCell' = true := fun k hk => by
     have := h1 k hk
     simpa [Array.getD_eq_getD_getElem?] using this
   rcases zMa j off with hjo | hjo
   · rw [zLa (by omega), zUa, if_pos hjo]
     exact hold j hj
   · rw [zKa (by omega), ht]
     rcases zMa (j - off) xs.length with hj2 | hj2
     · rw [zLa (by omega), zJa (by omega)]
       exact q2 _ (zQb _)
     · rw [zKa (by omega), zRa, hvl]
       rw [show off + xs.length + (j - off - xs.length) = j by omega]
       exact hold j hj
 · intro j u hu
   have hoff : off ≤ vs.toList.length := by simp; omega
   have hgd : ∀ (l : List Value), l.toArray.getD j undef = l.getD j undef := fun l => by simp [Array.getD_eq_getD_getElem?, zIa]
   rw [hgd]
   refine Rep.keep hk ?_
   simp only [putCells] at hu
   rw [zNb] at hu ⊢
   rw [zIa]
   have ht : (vs.toList.take off).length = off := by simp only [zRb]; omega
   have ht' : (cs.take off).length = off := by simp only [zRb]; omega
   rcases zMa j off with hj | hj
   · rw [zLa (by omega), zUa, if_pos hj] at hu
     rw [zLa (by omega), zUa, if_pos hj]
     have := hrep j u hu
     simpa [Array.getD_eq_getD_getElem?] using this
   · rw [zKa (by omega), ht'] at hu
     rw [zKa (by omega), ht]
     rcases zMa (j - off) xs.length with hj2 | hj2
     · rw [zLa hj2] at hu
       rw [zLa (by omega)]
       simpa [zIa] using q3 _ u hu
     · rw [zKa hj2, zRa] at hu
       rw [zKa (by omega), zRa, hvl]
       rw [show off + xs.length + (j - off - xs.length) = j by omega] at hu ⊢
       have := hrep j u hu
       simpa [Array.getD_eq_getD_getElem?] using this
 · rw [hb] at hb'
   cases hb'
   exact ⟨by simp; omega, setRow_heap w b vs _ e _ hb⟩
theorem row_put {cs : List AV} {b off : Nat} {x : AV} {v : Value} (hrow : RowAt w g cs b) (hs : solid x = true) (hr : Rep w g x v) (hfit : off + x.cells.length ≤ cs.length) :
   ∃ cur', (storeCells ⟨b, off, none⟩ v.cells.toList 0).run P w = .ok () (w.setRow b cur') ∧ RowAt (w.setRow b cur') g (putCells cs off x.cells) b ∧ Keeps w g (w.setRow b cur') g := by
 obtain ⟨q1, q2, q3⟩ := solid_rep hs hr
 obtain ⟨cur', c1, c2, c3, -⟩ := row_putL (P := P) (xs := x.cells) (us := v.cells.toList) hrow (by simpa using q1) q2 q3 hfit
 exact ⟨cur', c1, c2, c3⟩
theorem row_putE {e m : Nat} {cs : List AV} {b off : Nat} {xs : List AV} {us : List Value} (hrow : RowE w g e m cs b) (q1 : us.length = xs.length) (q2 : ∀ u ∈ us, u.oneCell' = true) (q3 : ∀ j u, xs[j]? = some u → Rep w g u (us.getD j undef)) (hfit : off + xs.length ≤ cs.length) :
   ∃ cur', (storeCells ⟨b, off, none⟩ us 0).run P w = .ok () (w.setRow b cur') ∧ RowE (w.setRow b cur') g e m (putCells cs off xs) b ∧ Keeps w g (w.setRow b cur') g := by
 obtain ⟨cur', c1, ⟨vs', e', d1, d2, d3, d4, d5⟩, c3, c4⟩ := row_putL (P := P) hrow.at q1 q2 q3 hfit
 obtain ⟨vs, a1, a2, a3, a4, a5, a6⟩ := hrow
 obtain ⟨k1, k2⟩ := c4 vs e a1
 rw [k2] at d1
 cases d1
 exact ⟨cur', c1, ⟨cur', k2, by omega, by omega, d3, d4, d5⟩, c3⟩
theorem R.setBox (r : R H w0 g0 s h g a w) {k b : Nat} {cs cs' : List AV} {cur' : Array Value} (hs : s k = .box cs) (hv : tmOf a k = .pointer (some ⟨b, 0, none⟩))
   (hrow : RowAt (w.setRow b cur') g cs' b) (hk : Keeps w g (w.setRow b cur') g) : R H w0 g0 (Vm.set s k (.box cs')) h g a (w.setRow b cur') := by
 have hb : privB (s k) (tmOf a k) = some b := by rw [hs, hv]; rfl
 have hlt := priv_lt (r.slots k) hb
 have hsz : (w.setRow b cur').heap.size = w.heap.size := by simp [World.setRow]
 have hpr : ∀ i, privB (Vm.set s k (.box cs') i) (tmOf a i) = privB (s i) (tmOf a i) := fun i => by
   unfold Vm.set
   split
   · rename_i e; subst e; rw [hs, hv]; rfl
   · rfl
 have hoth : ∀ i b', i ≠ k → privB (s i) (tmOf a i) = some b' → b' ≠ b := fun i b' hi hb' e => hi (r.apart i k b' hb' (e ▸ hb))
 refine ⟨r.defers, fun i => ?_, fun i j b' hi hj => r.apart i j b' ((hpr i).symm.trans hi) ((hpr j).symm.trans hj), fun i b' hi => r.sep i b' ((hpr i).symm.trans hi), ?_, ?_, r.n0, r.loc0, r.old, r.loc1, fun b' hb' => r.fresh b' (by rw [hsz] at hb'; exact hb'), fun i cs hi => (r.laid i cs hi).keep hk, r.kept.trans hk⟩
 · by_cases hi : i = k
   · subst hi
     simp only [Vm.set, if_true]
     exact ⟨b, hv, hlt.1, hrow⟩
   · simp only [Vm.set, hi, if_false]
     exact (r.slots i).keepAt hk fun b' hb' => ⟨setRow_other w b b' cur' (hoth i b' hi hb'), rfl⟩
 · exact ⟨r.heap.n, fun i hi => by rw [hsz]; exact r.heap.lt i hi, r.heap.inj, fun i o' ho => (r.heap.obj i o' ho).keepAt hk ⟨setRow_other w b _ cur' (r.sep k b hb i (by
     rw [← r.heap.n]
     rcases zMa i h.length with h' | h'
     · exact h'
     · simp [zNa h'] at ho)), rfl⟩⟩
 · exact ⟨r.frame.os, r.frame.tape, r.frame.output, by rw [hsz]; exact r.frame.size, fun k' hk' hno => by rw [setRow_other w b k' cur' (by omega)]; exact r.frame.block k' hk' hno⟩
theorem heap_lt {i : Nat} {x : AObj} (r : R H w0 g0 s h g a w) (ho : h[i]? = some x) : i < g.n := by
 rw [← r.heap.n]
 rcases zMa i h.length with h' | h'
 · exact h'
 · simp [zNa h'] at ho
theorem R.setObj (r : R H w0 g0 s h g a w) {i : Nat} {x x' : AObj} (hi : h[i]? = some x) (hk : Keeps w g w' g) (hother : ∀ k, k ≠ g.loc i → w'.heap[k]? = w.heap[k]?) (hsz : w'.heap.size = w.heap.size)
   (hw : w'.os = w.os ∧ w'.tape = w.tape ∧ w'.output = w.output) (hobj : ObjRep w' g x' (g.loc i)) : R H w0 g0 s (h.set i x') g a w' := by
 have hin := heap_lt r hi
 refine ⟨r.defers, fun j => (r.slots j).keepAt hk fun b' hb' => ⟨hother b' fun e => r.sep j b' hb' i hin e.symm, rfl⟩, r.apart, r.sep, ?_, ?_, r.n0, r.loc0, r.old, r.loc1, fun b' hb' => r.fresh b' (by rw [hsz] at hb'; exact hb'), fun i cs hi => (r.laid i cs hi).keep hk, r.kept.trans hk⟩
 · refine ⟨by rw [zTb]; exact r.heap.n, fun j hj => by rw [hsz]; exact r.heap.lt j hj, r.heap.inj, fun j o' ho => ?_⟩
   rw [List.getElem?_set] at ho
   split at ho
   · rename_i e
     subst e
     rw [if_pos (by rw [r.heap.n]; exact hin)] at ho
     cases ho
     exact hobj
   · rename_i e
     have hjn := heap_lt r ho
     exact (r.heap.obj j o' ho).keepAt hk ⟨hother _ fun e' => e (r.heap.inj i j hin hjn e'.symm), rfl⟩
 · refine ⟨hw.1.trans r.frame.os, hw.2.1.trans r.frame.tape, hw.2.2.trans r.frame.output, by rw [hsz]; exact r.frame.size, fun k hk' hno => ?_⟩
   rw [hother k fun e => ?_]
   · exact r.frame.block k hk' hno
   · rcases zMa i g0.n with h0 | h0
     · exact hno i h0 ((r.loc0 i h0).symm.trans e.symm)
     · have := r.loc1 i hin h0
       omega
theorem R.setOwn (r : R H w0 g0 s h g a w) {k b e sz : Nat} {m : Bool} {xs xs' : List AV} {cur' : Array Value} (hs : s k = .own m e sz xs) (hb : privB (s k) (tmOf a k) = some b)
   (hrow : OwnRep (w.setRow b cur') g w0.heap.size m e sz xs' (tmOf a k)) (hk : Keeps w g (w.setRow b cur') g) : R H w0 g0 (Vm.set s k (.own m e sz xs')) h g a (w.setRow b cur') := by
 have hlt := priv_lt (r.slots k) hb
 have hsz : (w.setRow b cur').heap.size = w.heap.size := by simp [World.setRow]
 have hpr : ∀ i, privB (Vm.set s k (.own m e sz xs') i) (tmOf a i) = privB (s i) (tmOf a i) := fun i => by
   unfold Vm.set
   split
   · rename_i e; subst e; rw [hs]; rfl
   · rfl
 have hoth : ∀ i b', i ≠ k → privB (s i) (tmOf a i) = some b' → b' ≠ b := fun i b' hi hb' e => hi (r.apart i k b' hb' (e ▸ hb))
 refine ⟨r.defers, fun i => ?_, fun i j b' hi hj => r.apart i j b' ((hpr i).symm.trans hi) ((hpr j).symm.trans hj), fun i b' hi => r.sep i b' ((hpr i).symm.trans hi), ?_, ?_, r.n0, r.loc0, r.old, r.loc1, fun b' hb' => r.fresh b' (by rw [hsz] at hb'; exact hb'), fun i cs hi => (r.laid i cs hi).keep hk, r.kept.trans hk⟩
 · by_cases hi : i = k
   · subst hi
     simp only [Vm.set, if_true]
     exact hrow
   · simp only [Vm.set, hi, if_false]
     exact (r.slots i).keepAt hk fun b' hb' => ⟨setRow_other w b b' cur' (hoth i b' hi hb'), rfl⟩
 · exact ⟨r.heap.n, fun i hi => by rw [hsz]; exact r.heap.lt i hi, r.heap.inj, fun i o' ho => (r.heap.obj i o' ho).keepAt hk ⟨setRow_other w b _ cur' (r.sep k b hb i (heap_lt r ho)), rfl⟩⟩
 · exact ⟨r.frame.os, r.frame.tape, r.frame.output, by rw [hsz]; exact r.frame.size, fun k' hk' hno => by rw [setRow_other w b k' cur' (by omega)]; exact r.frame.block k' hk' hno⟩
theorem run_isStore {t : TypeId} {n : Nat} {b off : Nat} {v : Value} (hn : szT P t = some n) (hv : v.cells.size = n) :
   (Instr.storeAt t (.pointer (some ⟨b, off, none⟩)) v).run P w = (storeCells ⟨b, off, none⟩ v.cells.toList 0).run P w := by
 unfold szT at hn
 cases hi : P.info? t with
 | none => rw [hi] at hn; cases hn
 | some i =>
   rw [hi] at hn
   simp only [zOa, Option.some.injEq] at hn
   simp [Instr.storeAt, Instr.sureAddr, storeVar, sizeOf, typeInfo, hi, hn, hv]
theorem aft_skip {N : Nat} {s' : Slots} {h' : Heap} (r' : R H w0 g0 s' h' g' a w') (hN : a.tmps.size = N) (hd : ∀ d, o.dst = some d → d < N)
   (hrun : (execOp a.eval o).run P w = .ok .skip w') (hK : K .any s' h') : o.wp P a w (Aft N H w0 g0 o K) Q := by
 unfold Oper.wp
 rw [hrun, Oper.upon_skip]
 refine ⟨.any, s', h', g', hK, ?_, by rw [size_put]; exact hN⟩
 cases ho : o.dst with
 | none => exact r'
 | some d => exact r'.put (by rw [hN]; exact hd d ho) (.any _) fun b hb => by cases hb
theorem own_put {B b e sz i off c n : Nat} {xs : List AV} {x : AV} {v tv : Value} (hown : OwnRep w g B true e sz xs tv) (htv : tv = .slice (some ⟨b, 0, none⟩) n c) (hs : solid x = true) (hr : Rep w g x v)
   (hfit : off + x.cells.length ≤ sz) (hi : i < xs.length) (hre : (reCell xs[i] (putCells xs[i].cells off x.cells)).cells = putCells xs[i].cells off x.cells) :
   ∃ cur', (storeCells ⟨b, i * sz + off, none⟩ v.cells.toList 0).run P w = .ok () (w.setRow b cur') ∧ OwnRep (w.setRow b cur') g B true e sz (xs.set i (reCell xs[i] (putCells xs[i].cells off x.cells))) tv ∧ Keeps w g (w.setRow b cur') g := by
 obtain ⟨hpos, hu, vs, hrow, hone, hrep, hpub⟩ := hown
 obtain ⟨q1, q2, q3⟩ := solid_rep hs hr
 rcases hrow.2 with ⟨h0, -⟩ | ⟨gb, cap, cur, hv, b1, b2, b3, b4, b5, b6⟩
 · rw [h0] at htv; cases htv
 have hv' := hv
 rw [htv] at hv'
 simp only [Value.slice.injEq, Option.some.injEq, Addr.mk.injEq, and_true] at hv'
 obtain ⟨rfl, rfl, rfl⟩ := hv'
 have hp0 : g.pub b = 0 := by have := hpub b (by rw [hv]; rfl); simpa using this
 have hvl : v.cells.toList.length = x.cells.length := by simpa using q1
 have hvs : vs.length = xs.length * sz := hrow.1
 have hfl := flat_length hu
 have hle : i * sz + sz ≤ xs.length * sz := by
   have : (i + 1) * sz ≤ xs.length * sz := zLb _ hi
   rw [zIb] at this; omega
 have hle2 : xs.length * sz ≤ c * sz := zLb _ b3
 have hk : Keeps w g (w.setRow b (cur.toList.take (i * sz + off) ++ v.cells.toList ++ cur.toList.drop (i * sz + off + v.cells.toList.length)).toArray) g := keeps_setRow (e := e) (cur := cur) (fr := (0, 0)) hp0
 have hst := run_storeCells_at P b (i * sz + off) e v.cells.toList 0 cur w b2 (by rw [hvl]; omega) q2
 simp only [Nat.add_zero] at hst
 have hxl := hu _ (zQb hi)
 have hpl : (putCells xs[i].cells off x.cells).length = sz := by simp [putCells]; omega
 refine ⟨_, hst, ⟨hpos, fun y hy => ?_, vs.take (i * sz + off) ++ v.cells.toList ++ vs.drop (i * sz + off + v.cells.toList.length), ?_, fun u hu' => ?_, fun j u hj => ?_, fun b' hb' => ?_⟩, hk⟩
 · rcases List.mem_or_eq_of_mem_set hy with h | rfl
   · exact hu y h
   · rw [hre]; exact hpl
 · rw [zTb]
   refine ⟨by simp; omega, .inr ⟨b, c, _, hv, b1, setRow_heap w b cur _ e _ b2, b3, b4, ?_, ?_⟩⟩
   · simp; omega
   · rw [← b6]
     apply List.ext_getElem?
     intro j
     simp only [zUa, List.getElem?_append, zVa, zRb, Array.length_toList, zRa, hvl]
     by_cases hj : j < xs.length * sz
     · simp only [hj, if_true]
       by_cases h1 : j < i * sz + off
       · have e1 : j < min (i * sz + off) cur.size := by omega
         have e2 : j < min (i * sz + off) (min (xs.length * sz) cur.size) := by omega
         simp only [e1, e2, if_true, h1, hj]
         rw [if_pos (by omega), if_pos (by omega)]
       · have m1 : min (i * sz + off) cur.size = i * sz + off := by omega
         have m2 : min (i * sz + off) (min (xs.length * sz) cur.size) = i * sz + off := by omega
         simp only [m1, m2, h1, if_false]
         by_cases h2 : j < i * sz + off + x.cells.length
         · rw [if_pos h2, if_pos h2]
         · rw [if_neg h2, if_neg h2]
           rw [show i * sz + off + x.cells.length + (j - (i * sz + off + x.cells.length)) = j by omega, if_pos hj]
     · simp only [hj, if_false]
       have m2 : min (i * sz + off) (min (xs.length * sz) cur.size) = i * sz + off := by omega
       rw [m2, if_neg (by omega), if_neg (by omega)]
 · simp only [List.mem_append] at hu'
   rcases hu' with (h | h) | h
   · exact hone u (zWb h)
   · exact q2 u h
   · exact hone u (List.mem_of_mem_drop h)
 · refine Rep.keep hk ?_
   have hu2 : ∀ y ∈ xs.set i (reCell xs[i] (putCells xs[i].cells off x.cells)), y.cells.length = sz := fun y hy => by
     rcases List.mem_or_eq_of_mem_set hy with h | rfl
     · exact hu y h
     · rw [hre]; exact hpl
   have hfl2 := flat_length hu2
   have hjl : j < xs.length * sz := by
     rcases zMa j (flat (xs.set i (reCell xs[i] (putCells xs[i].cells off x.cells)))).length with h | h
     · rw [hfl2, zTb] at h; exact h
     · rw [zNa h] at hj; cases hj
   have hq : j / sz < xs.length := Nat.div_lt_of_lt_mul (by rw [Nat.mul_comm]; exact hjl)
   have hjm : j / sz * sz + j % sz = j := by rw [Nat.mul_comm]; exact Nat.div_add_mod j sz
   have hr0 : j % sz < sz := Nat.mod_lt _ hpos
   have hge2 := flat_get hu2 (zJa (by rw [zTb]; exact hq)) (j % sz) hr0
   have hge1 := flat_get hu (zJa hq) (j % sz) hr0
   rw [hjm] at hge1 hge2
   rw [hge2] at hj
   rw [zIa]
   by_cases hqi : j / sz = i
   · have hgi : (xs.set i (reCell xs[i] (putCells xs[i].cells off x.cells)))[j / sz]'(by rw [zTb]; exact hq) = reCell xs[i] (putCells xs[i].cells off x.cells) := by simp [hqi]
     rw [hgi, hre] at hj
     have hji : j = i * sz + j % sz := by rw [← hqi]; omega
     simp only [putCells] at hj
     have htk : (xs[i].cells.take off).length = off := by simp; omega
     have htv : (vs.take (i * sz + off)).length = i * sz + off := by simp; omega
     rw [zNb] at hj ⊢
     rcases zMa (j % sz) off with h1 | h1
     · rw [zLa (by omega), zUa, if_pos h1] at hj
       rw [zLa (by omega), zUa, if_pos (by omega)]
       have e : xs[j / sz] = xs[i] := by congr 1
       rw [e] at hge1
       have := hrep j u (hge1.trans hj)
       simpa [zIa] using this
     · rw [zKa (by omega), htk] at hj
       rw [zKa (by omega), htv]
       rcases zMa (j % sz - off) x.cells.length with h2 | h2
       · rw [zLa h2] at hj
         rw [zLa (by omega), show j - (i * sz + off) = j % sz - off by omega]
         simpa [zIa] using q3 _ u hj
       · rw [zKa h2, zRa, show off + x.cells.length + (j % sz - off - x.cells.length) = j % sz by omega] at hj
         rw [zKa (by omega), zRa, hvl, show i * sz + off + x.cells.length + (j - (i * sz + off) - x.cells.length) = j by omega]
         have e : xs[j / sz] = xs[i] := by congr 1
         rw [e] at hge1
         have := hrep j u (hge1.trans hj)
         simpa [zIa] using this
   · have hgi : (xs.set i (reCell xs[i] (putCells xs[i].cells off x.cells)))[j / sz]'(by rw [zTb]; exact hq) = xs[j / sz] := by
       rw [List.getElem_set]; rw [if_neg (fun e => hqi e.symm)]
     rw [hgi] at hj
     have h1 := hrep j u (hge1.trans hj)
     rw [zNb]
     have htv : (vs.take (i * sz + off)).length = i * sz + off := by simp; omega
     rcases zMa (j / sz) i with h2 | h2
     · have : (j / sz + 1) * sz ≤ i * sz := zLb _ h2
       rw [zIb] at this
       rw [zLa (by omega), zUa, if_pos (by omega)]
       simpa [zIa] using h1
     · have : (i + 1) * sz ≤ j / sz * sz := zLb _ (by omega)
       rw [zIb] at this
       rw [zKa (by omega), htv, zKa (by omega), zRa, hvl, show i * sz + off + x.cells.length + (j - (i * sz + off) - x.cells.length) = j by omega]
       simpa [zIa] using h1
 · rw [hv] at hb'
   simp only [Value.ownBlock, Option.some.injEq] at hb'
   subst hb'
   simp [hp0]
theorem sound_store {N : Nat} {t : TypeId} {p x : Operand} (ho : o.op = .store t p x) (r : R H w0 g0 s h g a w) (hN : a.tmps.size = N) (hd : ∀ d, o.dst = some d → d < N)
   (hK : awpStore (szT P t) (mv s p) (esc s h x).1 (esc s h x).2.1 (esc s h x).2.2 K) : o.wp P a w (Aft N H w0 g0 o K) Q := by
 obtain ⟨hsol, hn, hK⟩ := hK
 have hp := (r.mv p).1
 obtain ⟨g1, r1, k1, p1⟩ := r.esc x
 obtain ⟨q1, -, -⟩ := solid_rep hsol p1
 have hrun : ∀ {b off : Nat} {w' : World}, a.eval p = .pointer (some ⟨b, off, none⟩) → (storeCells ⟨b, off, none⟩ (a.eval x).cells.toList 0).run P w = .ok () w' → (execOp a.eval o).run P w = .ok .skip w' := by
   intro b off w' he hst
   simp only [execOp, ho, Sem.run_bind, he, run_isStore hn q1, hst, Result.andThen_ok]
   rfl
 split at hK
 · rename_i k off hpl
   rw [hpl] at hp
   obtain ⟨b, hb1, hb2⟩ := hp
   split at hK
   · rename_i cs hs
     have hsl := r1.slots k
     rw [hs] at hsl
     obtain ⟨b', hb', hB, hrow⟩ := hsl
     have hbe : b' = b := by
       have := hb1.symm.trans hb'
       simpa using this.symm
     subst hbe
     obtain ⟨cur', c1, c2, c3⟩ := row_put (P := P) hrow hsol p1 hK.1
     exact aft_skip (r1.setBox hs hb1 c2 c3) hN hd (hrun hb2 c1) hK.2
   · rename_i i o0 hs
     have hsl := r1.slots k
     rw [hs] at hsl
     have hb1' : a.tmps.getD k undef = .pointer (some ⟨b, 0, none⟩) := hb1
     rw [hb1'] at hsl
     have hsl' : Rep w g1 (.ptr i o0) (.pointer (some ⟨b, 0, none⟩)) := hsl
     generalize hq : (some (⟨b, 0, none⟩ : Addr)) = q at hsl'
     cases hsl' with
     | ptr _ _ hi =>
       cases hq
       split at hK
       · rename_i cs ho
         have hrow : RowAt w g1 cs (g1.loc i) := r1.heap.obj i _ ho
         rw [zOb] at hK
         obtain ⟨cur', c1, c2, c3⟩ := row_put (P := P) hrow hsol p1 hK.1
         exact aft_skip (r1.setObj ho c3 (fun k hk => setRow_other w _ k cur' hk) (by simp [World.setRow]) ⟨rfl, rfl, rfl⟩ (show ObjRep _ _ (.cells _) _ from c2)) hN hd (hrun hb2 c1) hK.2
       · exact hK.elim
   · exact hK.elim
 · rename_i i off hpl
   rw [hpl] at hp
   have hp' : Rep w g (.ptr i off) (a.eval p) := hp
   generalize hv : a.eval p = v at hp' hrun
   cases hp' with
   | ptr _ _ hi =>
   split at hK
   · rename_i cs hs
     have hrow : RowAt w g1 cs (g1.loc i) := r1.heap.obj i _ hs
     obtain ⟨cur', c1, c2, c3⟩ := row_put (P := P) hrow hsol p1 hK.1
     rw [k1.loc i hi] at c1 c2 c3
     refine aft_skip (r1.setObj hs c3 (fun k hk => setRow_other w _ k cur' (by rw [← k1.loc i hi]; exact hk)) (by simp [World.setRow]) ⟨rfl, rfl, rfl⟩ ?_) hN hd (hrun rfl c1) hK.2
     rw [k1.loc i hi]; exact c2
   · rename_i e m cs hs
     have hrow : RowE w g1 e m cs (g1.loc i) := r1.heap.obj i _ hs
     obtain ⟨b1, b2, b3⟩ := solid_rep hsol p1
     obtain ⟨cur', c1, c2, c3⟩ := row_putE (P := P) (xs := (Vm.esc s h x).1.cells) (us := (a.eval x).cells.toList) hrow (by simpa using b1) b2 b3 hK.1
     rw [k1.loc i hi] at c1 c2 c3
     refine aft_skip (r1.setObj hs c3 (fun k hk => setRow_other w _ k cur' (by rw [← k1.loc i hi]; exact hk)) (by simp [World.setRow]) ⟨rfl, rfl, rfl⟩ ?_) hN hd (hrun rfl c1) hK.2
     rw [k1.loc i hi]; exact c2
   · exact hK.elim
 · rename_i k sz i off hpl
   rw [hpl] at hp
   obtain ⟨b, c, n, hb1, hb2⟩ := hp
   have hsl := r1.slots k
   unfold awpStoreE at hK
   split at hK
   · rename_i e sz' xs hs
     rw [hs] at hsl
     obtain ⟨rfl, hfit, hlt, hK⟩ := hK
     obtain ⟨hre, hK⟩ := hK _ (zJa hlt)
     obtain ⟨cur', c1, c2, c3⟩ := own_put (P := P) hsl hb1 hsol p1 hfit hlt hre
     have hpb : privB ((esc s h x).2.1 k) (tmOf a k) = some b := by rw [hs, show tmOf a k = _ from hb1]; rfl
     exact aft_skip (r1.setOwn hs hpb c2 c3) hN hd (hrun hb2 c1) hK
   · exact hK.elim
 · exact hK.elim
theorem sound_makeFunc {N : Nat} {f : FuncId} {first caps : Array Operand} (ho : o.op = .makeFunc (.func f) first caps) (r : R H w0 g0 s h g a w) (hN : a.tmps.size = N) (hd : ∀ d, o.dst = some d → d < N)
   (hK : first = #[] ∧ K (.clo f (escs s h caps.toList).1) (escs s h caps.toList).2.1 (escs s h caps.toList).2.2) : o.wp P a w (Aft N H w0 g0 o K) Q := by
 obtain ⟨g1, r1, k1, l1, p1⟩ := R.escs caps.toList r
 obtain ⟨hf, hK⟩ := hK
 subst hf
 refine aft_rep r1 hN hd (v := .func (.func f) #[] (caps.map a.eval)) ?_ (.clo ?_ fun j u hu => ?_) hK
 · simp only [execOp, ho, Instr.makeFunc, Sem.run_bind, Sem.run_pure, Result.andThen_ok, Array.map_empty]
 · rw [l1]; simp
 · have := p1 j u hu
   simpa [Array.getD_eq_getD_getElem?, zIa] using this
end Go.Vm
namespace Go.Vm
open Go.RowKit
section
variable {P : Program} {H : Hst} {w0 w w' : World} {g0 g g' gg : Gh} {s : Slots} {h h' : Heap} {a : Act} {o : Oper} {K : AV → Slots → Heap → Prop}
def Cells (w : World) (g : Gh) (w' : World) : Prop := ∀ b j v, j < g.pub b → w.cell? ⟨b, j, none⟩ = some v → w'.cell? ⟨b, j, none⟩ = some v
def Pw (P : Program) (o : Oper) (a : Act) (w : World) (g : Gh) (K : Act → World → Prop) : Prop :=
 ∃ v, (∀ w', Cells w g w' → (execOp a.eval o).run P w' = .ok (.value v) w') ∧ K (a.put o.dst v) w
theorem aft_valueP {N : Nat} {x : AV} {v : Value} (r : R H w0 g0 s h g a w) (hN : a.tmps.size = N) (hd : ∀ d, o.dst = some d → d < N)
   (hrun : ∀ w : World, (execOp a.eval o).run P w = .ok (.value v) w) (hx : slotRep w g w0.heap.size (tmOf a) x v)
   (hp : ∀ b, privB x v = some b → (∀ i, privB (s i) (tmOf a i) ≠ some b) ∧ ∀ k, k < g.n → g.loc k ≠ b) (hK : K x s h) :
   Pw P o a w gg (Aft N H w0 g0 o K) := by
 refine ⟨v, fun w' _ => hrun w', x, s, h, g, hK, ?_, by rw [size_put]; exact hN⟩
 cases ho : o.dst with
 | none => exact r
 | some d => exact r.put (by rw [hN]; exact hd d ho) hx fun b hb => ⟨fun i _ => (hp b hb).1 i, (hp b hb).2⟩
theorem aft_repP {N : Nat} {x : AV} {v : Value} (r : R H w0 g0 s h g a w) (hN : a.tmps.size = N) (hd : ∀ d, o.dst = some d → d < N)
   (hrun : ∀ w : World, (execOp a.eval o).run P w = .ok (.value v) w) (hx : Rep w g x v) (hK : K x s h) : Pw P o a w gg (Aft N H w0 g0 o K) :=
 aft_valueP r hN hd hrun (slotRep_of_rep (rep_shared hx) hx) (fun b hb => by rw [privB_shared (rep_shared hx)] at hb; cases hb) hK
theorem sound_moveP {N : Nat} {x : Operand} (ho : o.op = .move x) (r : R H w0 g0 s h g a w) (hN : a.tmps.size = N) (hd : ∀ d, o.dst = some d → d < N)
   (hK : K (mv s x) s h) : Pw P o a w gg (Aft N H w0 g0 o K) := by
 obtain ⟨h1, h2⟩ := r.mv x
 exact aft_valueP r hN hd (by simp [execOp, ho]) h1 (fun b hb => by rw [h2] at hb; cases hb) hK
theorem sound_pickP {N : Nat} {c x y : Operand} {t : Bool} (ho : o.op = .pick c x y) (r : R H w0 g0 s h g a w) (hN : a.tmps.size = N) (hd : ∀ d, o.dst = some d → d < N)
   (hc : ev s c = .v (.bool t)) (ht : t = true → K (val (ev s x)) s h) (hf : t = false → K (val (ev s y)) s h) : Pw P o a w gg (Aft N H w0 g0 o K) := by
 have he := r.eval c
 rw [hc] at he
 have hec : a.eval c = .bool t := (rep_v he).1
 cases t with
 | true => exact aft_repP r hN hd (by simp [execOp, ho, hec, asBool]) (r.eval_val x) (ht rfl)
 | false => exact aft_repP r hN hd (by simp [execOp, ho, hec, asBool]) (r.eval_val y) (hf rfl)
theorem sound_binP {N : Nat} {op : BinOp} {t t' : TypeId} {x y : Operand} (ho : o.op = .binOp op t x y t') (r : R H w0 g0 s h g a w) (hN : a.tmps.size = N) (hd : ∀ d, o.dst = some d → d < N)
   (hK : awpBin P op t (look s (ev s x)) (look s (ev s y)) fun v => K (.v v) s h) : Pw P o a w gg (Aft N H w0 g0 o K) := by
 have hx := r.look x
 have hy := r.look y
 have fin : ∀ v, (∀ w : World, (execOp a.eval o).run P w = .ok (.value v) w) → plain v = true → K (.v v) s h → Pw P o a w gg (Aft N H w0 g0 o K) := fun v hr hp hk => aft_repP r hN hd hr (.v hp) hk
 revert hK hx hy
 generalize look s (ev s x) = lx
 generalize look s (ev s y) = ly
 intro hK hx hy
 unfold awpBin at hK
 split at hK
 · rename_i k i k' j
   obtain ⟨ex, -⟩ := hx
   obtain ⟨ey, -⟩ := hy
   have hg : ∀ w : World, (eqGuard op t x y (.int k i) (.int k' j)).run P w = .ok () w := fun w => run_eqGuard_int op t x y _ _ _
   have hex : ∀ v, (∀ w : World, (binOp op t (.int k i) (.int k' j)).run P w = .ok v w) → ∀ w : World, (execOp a.eval o).run P w = .ok (.value v) w := fun v hv w => by
     simp [execOp, ho, ex, ey, hg, hv]
   split at hK
   · refine fin _ (hex _ ?_) rfl hK.2
     simp [binOp, Op.shift, Int.not_lt.2 hK.1]
   · refine fin _ (hex _ ?_) rfl hK.2
     simp [binOp, Op.shift, Int.not_lt.2 hK.1]
   · obtain ⟨rfl, hj, hK⟩ := hK
     refine fin _ (hex _ ?_) rfl hK
     simp [binOp, Op.intDiv, hj]
   · obtain ⟨rfl, hj, hK⟩ := hK
     refine fin _ (hex _ ?_) rfl hK
     simp [binOp, Op.intDiv, hj]
   · obtain ⟨rfl, hK⟩ := hK
     split at hK
     · rename_i v hv
       have hb : (∀ w : World, (binOp op t (.int k i) (.int k j)).run P w = .ok v w) ∧ plain v = true := by
         cases op <;> simp [intOp] at hv <;> (try subst hv) <;>
           (first | (simp_all; done) | (refine ⟨?_, rfl⟩; simp [binOp, Op.intArith, Op.intCmp, intBits_and, intBits_or, intBits_xor, intBits_andNot]))
       exact fin _ (hex _ hb.1) hb.2 hK
     · exact hK.elim
 · rename_i i j
   obtain ⟨ex, -⟩ := hx
   obtain ⟨ey, -⟩ := hy
   have hg : ∀ w : World, (eqGuard op t x y (.string i) (.string j)).run P w = .ok () w := fun w => run_eqGuard_string op t x y _ _
   have hex : ∀ v, (∀ w : World, (binOp op t (.string i) (.string j)).run P w = .ok v w) → ∀ w : World, (execOp a.eval o).run P w = .ok (.value v) w := fun v hv w => by
     simp [execOp, ho, ex, ey, hg, hv]
   split at hK
   · refine fin _ (hex _ ?_) rfl hK.2
     have h0 : ¬ ((i.size + j.size : Nat) : Int) > IntKind.i64.max := by
       have h1 := hK.1
       unfold maxLen at h1
       have : IntKind.i64.max = 9223372036854775807 := by decide
       omega
     simp only [binOp, Op.stringOp, h0, if_false, Sem.run_pure, implies_true]
   · refine fin _ (hex _ ?_) rfl hK
     simp [binOp, Op.stringOp]
   · refine fin _ (hex _ ?_) rfl hK
     simp [binOp, Op.stringOp]
   · refine fin _ (hex _ ?_) rfl hK
     simp [binOp, Op.stringOp]
   · refine fin _ (hex _ ?_) rfl hK
     simp [binOp, Op.stringOp]
   · refine fin _ (hex _ ?_) rfl hK
     simp [binOp, Op.stringOp]
   · refine fin _ (hex _ ?_) rfl hK
     simp [binOp, Op.stringOp]
   · exact hK.elim
 · rename_i i j
   obtain ⟨ex, -⟩ := hx
   obtain ⟨ey, -⟩ := hy
   have hg : ∀ w : World, (eqGuard op t x y (.bool i) (.bool j)).run P w = .ok () w := fun w => run_eqGuard_bool op t x y _ _
   have hex : ∀ v, (∀ w : World, (binOp op t (.bool i) (.bool j)).run P w = .ok v w) → ∀ w : World, (execOp a.eval o).run P w = .ok (.value v) w := fun v hv w => by
     simp [execOp, ho, ex, ey, hg, hv]
   obtain ⟨ht, hK⟩ := hK
   split at hK
   · refine fin _ (hex _ ?_) rfl hK
     simp only [binOp, Sem.run_bind, run_equal_bool t ht, Result.andThen_ok, Sem.run_pure, implies_true]
   · refine fin _ (hex _ ?_) rfl hK
     simp only [binOp, Sem.run_bind, run_equal_bool t ht, Result.andThen_ok, Sem.run_pure, implies_true]
   · exact hK.elim
 · exact hK.elim
theorem sound_convP {N : Nat} {t t' : TypeId} {x : Operand} (ho : o.op = .convert t t' x) (r : R H w0 g0 s h g a w) (hN : a.tmps.size = N) (hd : ∀ d, o.dst = some d → d < N)
   (hK : awpConv P t t' (ev s x) fun v => K v s h) : Pw P o a w gg (Aft N H w0 g0 o K) := by
 have hx := r.eval x
 unfold awpConv at hK
 split at hK
 · rename_i k n he
   rw [he] at hx
   have hex : a.eval x = .int k n := (rep_v hx).1
   split at hK
   · rename_i k' hu
     obtain ⟨hsrc, hK⟩ := hK
     obtain ⟨ds, hds⟩ := Option.ne_none_iff_exists'.1 hsrc
     refine aft_repP r hN hd ?_ (.v rfl) hK
     simp [execOp, ho, hex, convert, run_underlying hds, run_underlying hu, Conv.intToInt]
   · exact hK.elim
 · exact hK.elim
theorem sound_indexAddrP {N : Nat} {t : TypeId} {x i : Operand} {e sz : Nat} {xs : List AV} {k : IntKind} {n : Int} (ho : o.op = .indexAddr t x i) (r : R H w0 g0 s h g a w) (hN : a.tmps.size = N) (hd : ∀ d, o.dst = some d → d < N)
   (he : elemSz P t = some (e, sz)) (hx : asSl sz (ev s x) = some xs) (hi : ev s i = .v (.int k n)) (hb : 0 ≤ n ∧ n < xs.length)
   (hK : ∀ x, xs[n.toNat]? = some x → K (.eptr x.cells) s h) : Pw P o a w gg (Aft N H w0 g0 o K) := by
 obtain ⟨hu, inf, hinf, hsz⟩ := elemSz_spec he
 have hri := r.eval i
 rw [hi] at hri
 have hei : a.eval i = .int k n := (rep_v hri).1
 have hrx := asSl_rep hx (rep_of_slotRep (shared_asSl hx) (r.eval x))
 have hlt : n.toNat < xs.length := by omega
 obtain ⟨b, off, c, hex, hp, hl, -⟩ := rep_elem hrx (zJa hlt)
 refine aft_repP r hN hd ?_ hp (hK _ (zJa hlt))
 have hadd : (⟨b, off, none⟩ : Addr).add (n.toNat * sz) = ⟨b, off + n.toNat * sz, none⟩ := by
   unfold Addr.add; split
   · rename_i h0; rw [h0]; rfl
   · rfl
 simp [execOp, ho, hex, hei, Instr.indexAt, run_underlying hu, asIntOf, hb.1, hb.2, run_sizeOf hinf, hsz, hadd]
theorem sound_nilCheckP {N : Nat} {x : Operand} (ho : o.op = .nilCheck x) (r : R H w0 g0 s h g a w) (hN : a.tmps.size = N) (hd : ∀ d, o.dst = some d → d < N)
   (hK : awpNc (mv s x) fun v => K v s h) : Pw P o a w gg (Aft N H w0 g0 o K) := by
 have hm := (r.mv x).1
 have fin : ∀ ad, a.eval x = .pointer (some ad) → K (mv s x) s h → Pw P o a w gg (Aft N H w0 g0 o K) := fun ad he hk =>
   aft_valueP r hN hd (v := a.eval x) (by simp [execOp, ho, he]) hm (fun b hb => by rw [(r.mv x).2] at hb; cases hb) hk
 unfold awpNc at hK
 split at hK
 · rename_i k off he
   rw [he] at hm
   obtain ⟨b, -, hv⟩ := hm
   exact fin _ hv hK
 · rename_i cs he
   rw [he] at hm
   have hm' : Rep w g (.eptr cs) (a.eval x) := hm
   generalize hv : a.eval x = v at hm'
   cases hm' with
   | eptr vs hr hs => exact fin _ hv hK
 · rename_i i off he
   rw [he] at hm
   have hm' : Rep w g (.ptr i off) (a.eval x) := hm
   generalize hv : a.eval x = v at hm'
   cases hm' with
   | ptr _ _ hi => exact fin _ hv hK
 · rename_i k sz i off he
   rw [he] at hm
   obtain ⟨b, c, n, -, hv⟩ := hm
   exact fin _ hv hK
 · exact hK.elim
theorem sound_fieldAddrP {N : Nat} {t : TypeId} {x : Operand} {f : Nat} (ho : o.op = .fieldAddr t x f) (r : R H w0 g0 s h g a w) (hN : a.tmps.size = N) (hd : ∀ d, o.dst = some d → d < N)
   (hK : awpFa (fieldOf P t f) (mv s x) fun v => K v s h) : Pw P o a w gg (Aft N H w0 g0 o K) := by
 have hm := (r.mv x).1
 unfold awpFa at hK
 split at hK
 · rename_i off ty hf
   obtain ⟨fs, fd, i, hu, hfs, rfl, rfl, hi, h0⟩ := fieldOf_spec hf
   have hrun : ∀ b o', a.eval x = .pointer (some ⟨b, o', none⟩) → ∀ w : World, (execOp a.eval o).run P w = .ok (.value (.pointer (some ⟨b, o' + fd.offset, none⟩))) w := fun b o' he w => by
     have hne : ¬ i.size = 0 := by omega
     simp [execOp, ho, he, Instr.fieldAt, run_underlying hu, hfs, Instr.sureAddr, fieldPlace, run_sizeOf hi, hne, addr_add]
   split at hK
   · rename_i k off he
     rw [he] at hm
     obtain ⟨b, hb, hv⟩ := hm
     exact aft_valueP r hN hd (hrun b off hv) (x := .place k (off + fd.offset)) ⟨b, hb, rfl⟩ (fun b hb => by cases hb) hK
   · rename_i cs he
     rw [he] at hm
     have hm' : Rep w g (.eptr cs) (a.eval x) := hm
     generalize hv : a.eval x = v at hm'
     cases hm' with
     | @eptr _ b off vs hr hs =>
       refine aft_repP r hN hd (hrun b off hv) (.eptr (fun j => vs (fd.offset + j)) (fun j u hj => ?_) (fun j u hj => ?_)) hK
       · rw [zRa] at hj
         rw [Nat.add_assoc]; exact hr _ _ hj
       · rw [zRa] at hj; exact hs _ _ hj
   · rename_i k off he
     rw [he] at hm
     have hm' : Rep w g (.ptr k off) (a.eval x) := hm
     generalize hv : a.eval x = v at hm'
     cases hm' with
     | ptr _ _ hi => exact aft_repP r hN hd (hrun _ off hv) (.ptr k _ hi) hK
   · rename_i k sz i off he
     rw [he] at hm
     obtain ⟨b, c, n, hb, hv⟩ := hm
     exact aft_valueP r hN hd (hrun b _ hv) (x := .elt k sz i (off + fd.offset)) ⟨b, c, n, hb, by rw [Nat.add_assoc]⟩ (fun b hb => by cases hb) hK
   · exact hK.elim
 · exact hK.elim
theorem sound_extractSP {N : Nat} {tt : Operand} {i : Nat} (ho : o.op = .extract tt i) (r : R H w0 g0 s h g a w) (hN : a.tmps.size = N) (hd : ∀ d, o.dst = some d → d < N)
   (hK : awpExtS s (mv s tt) i fun v => K v s h) : Pw P o a w gg (Aft N H w0 g0 o K) := by
 obtain ⟨hm, -⟩ := r.mv tt
 have tup : ∀ (vs : List AV) (us : Array Value), a.eval tt = .tuple us → us.size = vs.length → (∀ j u, vs[j]? = some u → Rep w g u (us.getD j undef)) → i < vs.length → (∀ v, vs[i]? = some v → K (val v) s h) →
     Pw P o a w gg (Aft N H w0 g0 o K) := fun vs us hv hl hs hi hk => by
   have hu := hs i _ (zJa hi)
   refine aft_repP r hN hd (x := val vs[i]) (v := us.getD i undef) (by simp [execOp, ho, hv, Instr.extract, show i < us.size by omega, Array.getD]) ?_ (hk _ (zJa hi))
   exact rep_val (B := 0) (tm := fun _ => undef) (slotRep_of_rep (rep_shared hu) hu)
 unfold awpExtS at hK
 split at hK
 · rename_i k hmk
   rw [hmk] at hm
   have hev : a.eval tt = tmOf a k := hm
   have hsk := r.slots k
   unfold extAl at hK
   split at hK
   · rename_i i' m e sz xs rest hek
     rw [hek] at hsk
     obtain ⟨us, hus, hl, hs, hown⟩ := hsk
     have hus' : a.eval tt = .tuple us := hev.trans hus
     split at hK
     · rename_i hii
       subst hii
       have hi : i' < us.size := by
         rcases zMa i' us.size with h' | h'
         · exact h'
         · exfalso
           have : us.getD i' undef = undef := by simp [Array.getD_eq_getD_getElem?, Array.getElem?_eq_none h']
           rw [this] at hown
           obtain ⟨-, -, vs, ⟨-, h3⟩, -⟩ := hown
           rcases h3 with ⟨h3, -⟩ | ⟨gb, cap, cur, h3, -⟩ <;> cases h3
       refine aft_valueP r hN hd (x := .part k i') (v := us.getD i' undef) (by simp [execOp, ho, hus', Instr.extract, hi, Array.getD]) ⟨us, hus, rfl⟩ (fun b hb => by simp [privB] at hb) hK
     · exact tup rest us hus' hl hs hK.1 hK.2
   · rename_i vs hek
     rw [hek] at hsk
     have hsk' : Rep w g (.tup vs) (tmOf a k) := hsk
     unfold awpExt at hK
     generalize htk : tmOf a k = v at hsk' hev
     cases hsk' with
     | @tup _ us hl hs => exact tup vs us hev hl hs hK.1 hK.2
   · exact hK.elim
 · unfold awpExt at hK
   split at hK
   · rename_i vs hmv
     rw [hmv] at hm
     have hm' : Rep w g (.tup vs) (a.eval tt) := hm
     generalize hv : a.eval tt = v at hm'
     cases hm' with
     | @tup _ us hl hs => exact tup vs us hv hl hs hK.1 hK.2
   · exact hK.elim
theorem sound_builtinP {N : Nat} {b : Builtin} {ts : Array TypeId} {os : Array Operand} (ho : o.op = .call { callee := .builtin b, args := os, argTypes := ts }) (r : R H w0 g0 s h g a w) (hN : a.tmps.size = N) (hd : ∀ d, o.dst = some d → d < N)
   (hK : awpBuiltin P b ts os.toList s h K) : Pw P o a w gg (Aft N H w0 g0 o K) := by
 unfold awpBuiltin at hK
 have hargs : ∀ (l : List Operand), os.toList = l → os.map a.eval = (l.map a.eval).toArray := fun l hl => by subst hl; apply Array.ext'; simp
 split at hK
 · rename_i o' hos
   have hl := r.look o'
   have hA := hargs _ hos
   unfold lenA at hK
   split at hK
   · rename_i bs he
     rw [he] at hl
     obtain ⟨ht, hK⟩ := hK
     obtain ⟨t0, ht0, htu⟩ := zWa.1 ht
     refine aft_repP r hN hd ?_ (.v rfl) hK
     simp [execOp, ho, resolve, invoke, builtin, hA, hl.1, Builtin.len_, ht0, run_underlying htu, goInt]
   · rename_i he
     rw [he] at hl
     obtain ⟨ht, hK⟩ := hK
     obtain ⟨d, hd', hm⟩ := (zJb _ _).1 ht
     obtain ⟨t0, ht0, htu⟩ := zWa.1 hd'
     refine aft_repP r hN hd ?_ (.v rfl) hK
     cases d <;> simp at hm
     simp [execOp, ho, resolve, invoke, builtin, hA, hl.1, Builtin.len_, ht0, run_underlying htu, goInt]
   · rename_i sz xs he
     rw [he] at hl
     obtain ⟨bb, n, c, hev, hn, -⟩ := hl
     obtain ⟨ht, hK⟩ := hK
     obtain ⟨d, hd', hm⟩ := (zJb _ _).1 ht
     obtain ⟨t0, ht0, htu⟩ := zWa.1 hd'
     refine aft_repP r hN hd ?_ (.v rfl) hK
     cases d <;> simp at hm
     simp [execOp, ho, resolve, invoke, builtin, hA, hev, Builtin.len_, ht0, run_underlying htu, goInt, hn]
   · rename_i id off m cc he
     rw [he] at hl
     obtain ⟨bb, n, c, hev, hn, -⟩ := hl
     obtain ⟨ht, hK⟩ := hK
     obtain ⟨d, hd', hm⟩ := (zJb _ _).1 ht
     obtain ⟨t0, ht0, htu⟩ := zWa.1 hd'
     refine aft_repP r hN hd ?_ (.v rfl) hK
     cases d <;> simp at hm
     simp [execOp, ho, resolve, invoke, builtin, hA, hev, Builtin.len_, ht0, run_underlying htu, goInt, hn]
   · exact hK.elim
 · rename_i x y hos
   have hA := hargs _ hos
   have hx := r.eval x
   have hy := r.eval y
   unfold maxA at hK
   split at hK
   · rename_i k i k' j ex ey
     rw [ex] at hx; rw [ey] at hy
     obtain ⟨rfl, hK⟩ := hK
     refine aft_repP r hN hd ?_ (.v rfl) hK
     simp [execOp, ho, resolve, invoke, builtin, hA, (rep_v hx).1, (rep_v hy).1, run_max_int2]
   · exact hK.elim
 · rename_i x y hos
   have hA := hargs _ hos
   have hx := r.eval x
   have hy := r.eval y
   unfold minA at hK
   split at hK
   · rename_i k i k' j ex ey
     rw [ex] at hx; rw [ey] at hy
     obtain ⟨rfl, hK⟩ := hK
     refine aft_repP r hN hd ?_ (.v rfl) hK
     simp [execOp, ho, resolve, invoke, builtin, hA, (rep_v hx).1, (rep_v hy).1, run_min_int2]
   · exact hK.elim
 · rename_i x y z hos
   have hA := hargs _ hos
   have hx := r.eval x
   have hy := r.eval y
   have hz := r.eval z
   unfold maxA at hK
   split at hK
   · rename_i k i k' j ex ey
     rw [ex] at hx; rw [ey] at hy
     obtain ⟨rfl, hK⟩ := hK
     split at hK
     · rename_i k2 i2 k3 j2 ev2 ez
       rw [ez] at hz
       obtain ⟨rfl, hK⟩ := hK
       cases ev2
       refine aft_repP r hN hd ?_ (.v rfl) hK
       simp [execOp, ho, resolve, invoke, builtin, hA, (rep_v hx).1, (rep_v hy).1, (rep_v hz).1, run_max_three]
     · exact hK.elim
   · exact hK.elim
 · rename_i x y z hos
   have hA := hargs _ hos
   have hx := r.eval x
   have hy := r.eval y
   have hz := r.eval z
   unfold minA at hK
   split at hK
   · rename_i k i k' j ex ey
     rw [ex] at hx; rw [ey] at hy
     obtain ⟨rfl, hK⟩ := hK
     split at hK
     · rename_i k2 i2 k3 j2 ev2 ez
       rw [ez] at hz
       obtain ⟨rfl, hK⟩ := hK
       cases ev2
       refine aft_repP r hN hd ?_ (.v rfl) hK
       simp [execOp, ho, resolve, invoke, builtin, hA, (rep_v hx).1, (rep_v hy).1, (rep_v hz).1, run_min_three]
     · exact hK.elim
   · exact hK.elim
 · exact hK.elim
theorem sound_unP {N : Nat} {op : UnOp} {t : TypeId} {x : Operand} (ho : o.op = .unOp op t x) (r : R H w0 g0 s h g a w) (hN : a.tmps.size = N) (hd : ∀ d, o.dst = some d → d < N)
   (hK : awpUn op (ev s x) fun v => K (.v v) s h) : Pw P o a w gg (Aft N H w0 g0 o K) := by
 have hx := r.eval x
 unfold awpUn at hK
 split at hK
 · rename_i b he
   rw [he] at hx
   exact aft_repP r hN hd (by simp [execOp, ho, (rep_v hx).1, Op.unary]) (.v rfl) hK
 · rename_i k n he
   rw [he] at hx
   exact aft_repP r hN hd (by simp [execOp, ho, (rep_v hx).1, Op.unary, Op.intArith]) (.v rfl) hK
 · rename_i k n he
   rw [he] at hx
   exact aft_repP r hN hd (by simp [execOp, ho, (rep_v hx).1, Op.unary, intBits_xor]) (.v rfl) hK
 · exact hK.elim
theorem sound_sliceP {N : Nat} {t : TypeId} {x : Operand} {lo hi mx : Option Operand} (ho : o.op = .slice t x lo hi mx) (r : R H w0 g0 s h g a w) (hN : a.tmps.size = N) (hd : ∀ d, o.dst = some d → d < N)
   (hK : awpSlice P t (frz s x).1 (lo.map (ev s)) (hi.map (ev s)) (mx.map (ev s)) fun v => K v (frz s x).2 h) : Pw P o a w gg (Aft N H w0 g0 o K) := by
 obtain ⟨g1, r1, k1, p1, n1⟩ := r.frz x
 unfold awpSlice at hK
 split at hK
 · rename_i sz xs hx
   rw [hx] at p1
   split at hK
   · rename_i e sz' l m hes hl hm
     obtain ⟨rfl, ⟨h0, h1, h2⟩, hmx, hK⟩ := hK
     obtain ⟨hu, inf, hinf, hisz⟩ := elemSz_spec hes
     obtain ⟨b, c, hv, hc⟩ := rep_sl_shape p1
     rw [hv] at p1
     have hue : P.underlying t = some (.slice (P.elem t)) := by
       have : P.elem t = e := by simp [Program.elem, hu]
       rw [this]; exact hu
     have hse : ∀ w : World, (sizeOf (P.elem t)).run P w = .ok sz' w := fun w => by
       have : P.elem t = e := by simp [Program.elem, hu]
       rw [this, run_sizeOf hinf, hisz]
     have fin : ∀ k : Nat, m.toNat ≤ k → k ≤ c → (∀ w : World, (Instr.sliceAt t (a.eval x) (lo.map a.eval) (hi.map a.eval) (mx.map a.eval)).run P w = .ok (sliced b l.toNat m.toNat k sz') w) → Pw P o a w gg (Aft N H w0 g0 o K) := by
       intro k hk hkc hrun
       refine aft_valueP r1 hN hd (fun w => by simp only [execOp, ho, Sem.run_bind, hrun w, Result.andThen_ok]; rfl) (slotRep_of_rep rfl (rep_slice p1 l.toNat m.toNat k (by omega) (by omega) hk hkc)) (fun b hb => by cases hb) hK
     rw [hv] at fin
     simp only [run_sliceAt_slice _ t _ _ _ _ hue] at fin
     rcases bound_val r hl with ⟨hlo, rfl⟩ | ⟨yl, kl, hlo, hel⟩ <;> rcases bound_val r hm with ⟨hhi, rfl⟩ | ⟨yh, kh, hhi, heh⟩ <;> subst hlo <;> subst hhi
     · cases mx with
       | none =>
         refine fin c (by omega) (zPa _) fun w => ?_
         rw [show Option.map a.eval none = none from rfl, run_slice_all w t b xs.length c hue, hse]; simp
       | some y => simp at hmx
     · cases mx with
       | none =>
         refine fin c (by omega) (zPa _) fun w => ?_
         simp only [zTa, zOa, heh]
         rw [run_slice_h w t b xs.length c hue kh m (by omega) (by omega), hse]; rfl
       | some y => simp at hmx
     · cases mx with
       | none =>
         refine fin c (by omega) (zPa _) fun w => ?_
         simp only [zTa, zOa, hel]
         rw [run_slice_l w t b xs.length c hue kl l (by omega) (by omega), hse]; simp
       | some y => simp at hmx
     · cases mx with
       | none =>
         refine fin c (by omega) (zPa _) fun w => ?_
         simp only [zTa, zOa, hel, heh]
         rw [run_slice_lh w t b xs.length c hue kl kh l m h0 h1 (by omega), hse]; rfl
       | some y =>
         simp only [zOa] at hmx
         obtain ⟨-, -, hmx⟩ := hmx
         split at hmx
         · rename_i q hq
           have hq' : boundOf 0 ((some y).map (ev s)) = some q := hq
           rcases bound_val r hq' with ⟨e, -⟩ | ⟨ym, km, hym, hem⟩
           · cases e
           · cases hym
             refine fin q.toNat (by omega) (by omega) fun w => ?_
             simp only [zOa, hel, heh, hem]
             rw [run_slice_lhm w t b xs.length c hue kl kh km l m q h0 h1 hmx.1 (by omega), hse]; rfl
         · exact hmx.elim
   · exact hK.elim
 · rename_i id off n c hx
   rw [hx] at p1
   split at hK
   · rename_i e sz' l m hes hl hm
     obtain ⟨hmx, ⟨h0, h1, h2⟩, hK1, hK2⟩ := hK
     have hmx' : mx = none := by cases mx <;> simp_all
     subst hmx'
     obtain ⟨hu, inf, hinf, hisz⟩ := elemSz_spec hes
     generalize hv : a.eval x = v at p1
     have hue : P.underlying t = some (.slice (P.elem t)) := by
       have : P.elem t = e := by simp [Program.elem, hu]
       rw [this]; exact hu
     have hse : ∀ w : World, (sizeOf (P.elem t)).run P w = .ok sz' w := fun w => by
       have : P.elem t = e := by simp [Program.elem, hu]
       rw [this, run_sizeOf hinf, hisz]
     cases p1 with
     | osl _ _ _ _ hid hc hcm =>
       have fin : (∀ w : World, (Instr.sliceAt t (a.eval x) (lo.map a.eval) (hi.map a.eval) none).run P w = .ok (sliced (some ⟨g1.loc id, off, none⟩) l.toNat m.toNat c sz') w) → Pw P o a w gg (Aft N H w0 g0 o K) := by
         intro hrun
         by_cases hlc : l = 0 ∨ l < c
         · refine aft_valueP r1 hN hd (fun w => by simp only [execOp, ho, Sem.run_bind, zTa, hrun w, Result.andThen_ok]; rfl) (slotRep_of_rep rfl ?_) (fun b hb => by cases hb) (hK1 hlc)
           have he : sliced (some ⟨g1.loc id, off, none⟩) l.toNat m.toNat c sz' = .slice (some ⟨g1.loc id, off + l.toNat * sz', none⟩) (m.toNat - l.toNat) (c - l.toNat) := by
             unfold sliced
             by_cases hcl : c = l.toNat
             · have hl0 : l = 0 := by omega
               subst hl0; simp [hcl]
             · simp [hcl, addr_add]
           rw [he]
           exact .osl id _ _ _ hid (by omega) (by omega)
         · refine aft_valueP r1 hN hd (fun w => by simp only [execOp, ho, Sem.run_bind, zTa, hrun w, Result.andThen_ok]; rfl) (slotRep_of_rep rfl ?_) (fun b hb => by cases hb) (hK2 hlc)
           have he : sliced (some ⟨g1.loc id, off, none⟩) l.toNat m.toNat c sz' = .slice (some ⟨g1.loc id, off, none⟩) 0 0 := by
             unfold sliced
             have hcl : c = l.toNat := by omega
             have hml : m.toNat = l.toNat := by omega
             simp [hcl, hml]
           rw [he]
           exact .empty sz' _ 0 (zKb _)
       rw [hv] at fin
       simp only [run_sliceAt_slice _ t _ _ _ _ hue] at fin
       rcases bound_val r hl with ⟨hlo, rfl⟩ | ⟨yl, kl, hlo, hel⟩ <;> rcases bound_val r hm with ⟨hhi, rfl⟩ | ⟨yh, kh, hhi, heh⟩ <;> subst hlo <;> subst hhi
       · refine fin fun w => ?_
         rw [show Option.map a.eval none = none from rfl, run_slice_all w t _ n c hue, hse]; simp
       · refine fin fun w => ?_
         simp only [zTa, zOa, heh]
         rw [run_slice_h w t _ n c hue kh m (by omega) (by omega), hse]; rfl
       · refine fin fun w => ?_
         simp only [zTa, zOa, hel]
         rw [run_slice_l w t _ n c hue kl l (by omega) (by omega), hse]; simp
       · refine fin fun w => ?_
         simp only [zTa, zOa, hel, heh]
         rw [run_slice_lh w t _ n c hue kl kh l m h0 h1 (by omega), hse]; rfl
   · exact hK.elim
 · rename_i bs hx
   rw [hx] at p1
   have hv := (rep_v p1).1
   split at hK
   · rename_i l m hl hm
     obtain ⟨hu, hmx, ⟨h0, h1, h2⟩, hK⟩ := hK
     have hmx' : mx = none := by cases mx <;> simp_all
     subst hmx'
     have fin : (∀ w : World, (Instr.sliceAt t (.string bs) (lo.map a.eval) (hi.map a.eval) none).run P w = .ok (.string (bs.extract l.toNat m.toNat)) w) → Pw P o a w gg (Aft N H w0 g0 o K) := by
       intro hrun
       refine aft_valueP r1 hN hd (fun w => by simp only [execOp, ho, Sem.run_bind, hv, zTa, hrun w, Result.andThen_ok]; rfl) (slotRep_of_rep rfl (.v rfl)) (fun b hb => by cases hb) hK
     simp only [run_sliceAt_string _ t _ _ _ _ hu] at fin
     rcases bound_val r hl with ⟨hlo, rfl⟩ | ⟨yl, kl, hlo, hel⟩ <;> rcases bound_val r hm with ⟨hhi, rfl⟩ | ⟨yh, kh, hhi, heh⟩ <;> subst hlo <;> subst hhi <;> refine fin fun w => ?_
     · simp_all [Instr.slice, run_underlying hu, Instr.sliceBounds, run_sliceBound]
     · simp_all [Instr.slice, run_underlying hu, Instr.sliceBounds, run_sliceBound]
     · simp_all [Instr.slice, run_underlying hu, Instr.sliceBounds, run_sliceBound]
     · have e1 := run_sliceBound (P := P) w kh m bs.size .sliceAlen (by omega) h2
       have e2 := run_sliceBound (P := P) w kl l m.toNat .sliceB h0 (by omega)
       simp only [zOa, hel, heh]
       simp [Instr.slice, run_underlying hu, Instr.sliceBounds, e1, e2]
   · exact hK.elim
 · exact hK.elim
end
end Go.Vm
