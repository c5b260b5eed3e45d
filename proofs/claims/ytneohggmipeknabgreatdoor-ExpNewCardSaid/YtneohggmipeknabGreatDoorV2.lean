/- An interpreter over abstract values, and that it is sound. -/
import Derived.Test.YtneohggmipeknabGreatDoorV1
import Derived.Deep.Slices
import Derived.WideShapes
open And renaming intro → zZ
open List renaming getElem?_eq_getElem → zIa, getD_eq_getElem?_getD → zJa
open Bool renaming and_eq_true → zKa
set_option linter.unusedVariables false
set_option linter.unusedSimpArgs false
namespace Go.Vm
open Go.RowKit
theorem solid_v (x : Value) : solid (.v x) = true := id rfl
theorem solid_sl (sz : Nat) (xs : List AV) : solid (.sl sz xs) = true := id rfl
theorem solid_agg (xs : List AV) : solid (.agg xs) = true := id rfl
theorem solid_eptr (xs : List AV) : solid (.eptr xs) = true := id rfl
theorem solid_ptr (i o : Nat) : solid (.ptr i o) = true := id rfl
theorem solid_mp (i : Nat) : solid (.mp i) = true := id rfl
theorem solid_clo (f : FuncId) (xs : List AV) : solid (.clo f xs) = true := id rfl
theorem cells_eptr (xs : List AV) : (AV.eptr xs).cells = [.eptr xs] := id rfl
def stoOk (n o : Nat) (x : AV) (len : Nat) : Bool := solid x && (x.cells.length == n) && decide (o + n ≤ len)
theorem stoOk_eq (n o : Nat) (x : AV) (len : Nat) : stoOk n o x len = (solid x && (x.cells.length == n) && decide (o + n ≤ len)) := id rfl
def stoP (n i o : Nat) (x : AV) (s : Slots) (h : Heap) (K : AV → Slots → Heap → Prop) : Option AObj → Prop
 | some (.cells cs) => stoOk n o x cs.length = true ∧ K .any s (h.set i (.cells (putCells cs o x.cells)))
 | _ => False
def stoY (n i o : Nat) (x : AV) (s : Slots) (h : Heap) (K : AV → Slots → Heap → Prop) : Option AObj → Prop
 | some (.cells cs) => stoOk n o x cs.length = true ∧ K .any s (h.set i (.cells (putCells cs o x.cells)))
 | some (.row e m cs) => stoOk n o x cs.length = true ∧ K .any s (h.set i (.row e m (putCells cs o x.cells)))
 | _ => False
def stoX (n k o : Nat) (x : AV) (s : Slots) (h : Heap) (K : AV → Slots → Heap → Prop) : AV → Prop
 | .box cs => stoOk n o x cs.length = true ∧ K .any (set s k (.box (putCells cs o x.cells))) h
 | .ptr i o0 => stoP n i (o0 + o) x s h K h[i]?
 | _ => False
theorem sto_ok_iff {n o : Nat} {x : AV} {l : Nat} {A : Prop} : (solid x = true ∧ some n = some x.cells.length ∧ o + x.cells.length ≤ l ∧ A) = (stoOk n o x l = true ∧ A) := by
 simp only [stoOk, zKa, beq_iff_eq, decide_eq_true_eq, Option.some.injEq, eq_iff_iff]
 constructor
 · rintro ⟨h1, h2, h3, h4⟩; exact ⟨⟨⟨h1, h2.symm⟩, by omega⟩, h4⟩
 · rintro ⟨⟨⟨h1, h2⟩, h3⟩, h4⟩; exact ⟨h1, h2.symm, by omega, h4⟩
theorem sto_place (n k o : Nat) (x : AV) (s : Slots) (h : Heap) (K : AV → Slots → Heap → Prop) : awpStore (some n) (.place k o) x s h K = stoX n k o x s h K (s k) := by
 cases hs : s k with
 | box cs => simp only [stoX, awpStore, hs, sto_ok_iff]
 | ptr i o0 =>
   simp only [stoX, awpStore, hs]
   cases hh : h[i]? with
   | none => simp only [stoP, and_false]
   | some y => cases y <;> simp only [stoP, and_false, sto_ok_iff]
 | _ => simp only [stoX, awpStore, hs, and_false]
theorem sto_box (n k o : Nat) (x : AV) (s : Slots) (h : Heap) (K : AV → Slots → Heap → Prop) (cs : List AV) : stoX n k o x s h K (.box cs) = (stoOk n o x cs.length = true ∧ K .any (set s k (.box (putCells cs o x.cells))) h) := id rfl
theorem sto_pp (n k o : Nat) (x : AV) (s : Slots) (h : Heap) (K : AV → Slots → Heap → Prop) (i o0 : Nat) : stoX n k o x s h K (.ptr i o0) = stoP n i (o0 + o) x s h K h[i]? := id rfl
theorem sto_pc (n i o : Nat) (x : AV) (s : Slots) (h : Heap) (K : AV → Slots → Heap → Prop) (cs : List AV) : stoP n i o x s h K (some (.cells cs)) = (stoOk n o x cs.length = true ∧ K .any s (h.set i (.cells (putCells cs o x.cells)))) := id rfl
theorem sto_ptr (n i o : Nat) (x : AV) (s : Slots) (h : Heap) (K : AV → Slots → Heap → Prop) : awpStore (some n) (.ptr i o) x s h K = stoY n i o x s h K h[i]? := by
 simp only [awpStore]
 cases hh : h[i]? with
 | none => simp only [stoY, and_false]
 | some y => cases y <;> simp only [stoY, and_false, sto_ok_iff]
theorem sto_cells (n i o : Nat) (x : AV) (s : Slots) (h : Heap) (K : AV → Slots → Heap → Prop) (cs : List AV) : stoY n i o x s h K (some (.cells cs)) = (stoOk n o x cs.length = true ∧ K .any s (h.set i (.cells (putCells cs o x.cells)))) := id rfl
theorem put_nil (cs : List AV) : putCells cs 0 [] = cs := by simp [putCells]
theorem put_zero (c x : AV) (cs xs : List AV) : putCells (c :: cs) 0 (x :: xs) = x :: putCells cs 0 xs := by simp [putCells]
theorem put_succ (c : AV) (cs xs : List AV) (o : Nat) : putCells (c :: cs) (o + 1) xs = c :: putCells cs o xs := by
 simp [putCells, show o + 1 + xs.length = (o + xs.length) + 1 by omega]
def bldE (ps : List (Nat × Nat)) (cs : List AV) (K : AV → Prop) : List (Nat × AV) → Prop
 | [] => K (.agg cs)
 | (i, x) :: r => match ps[i]? with
   | some (off, n) => stoOk n off x cs.length = true ∧ bldE ps (putCells cs off x.cells) K r
   | none => False
def bldF (ps : List (Nat × Nat)) (cs : List AV) (K : AV → Prop) (x : AV) (r : List (Nat × AV)) : Option (Nat × Nat) → Prop
 | some (off, n) => stoOk n off x cs.length = true ∧ bldE ps (putCells cs off x.cells) K r
 | none => False
theorem bld_nil (ps : List (Nat × Nat)) (cs : List AV) (K : AV → Prop) : bldE ps cs K [] = K (.agg cs) := id rfl
theorem bld_cons (ps : List (Nat × Nat)) (cs : List AV) (K : AV → Prop) (i : Nat) (x : AV) (r : List (Nat × AV)) : bldE ps cs K ((i, x) :: r) = bldF ps cs K x r ps[i]? := by
 simp only [bldE, bldF]
theorem bld_some (ps : List (Nat × Nat)) (cs : List AV) (K : AV → Prop) (x : AV) (r : List (Nat × AV)) (off n : Nat) : bldF ps cs K x r (some (off, n)) = (stoOk n off x cs.length = true ∧ bldE ps (putCells cs off x.cells) K r) := id rfl
theorem bldE_fill (ps : List (Nat × Nat)) (K : AV → Prop) : ∀ (parts : List (Nat × AV)) (cs : List AV), bldE ps cs K parts = (match fillA ps cs parts with | some cs => K (.agg cs) | none => False)
 | [], cs => rfl
 | (i, x) :: r, cs => by
   simp only [bldE, fillA]
   cases hp : ps[i]? with
   | none => rfl
   | some p =>
     obtain ⟨off, n⟩ := p
     simp only
     cases hk : (solid x && x.cells.length == n && decide (off + n ≤ cs.length))
     · simp [stoOk, hk]
     · have hk' := hk
       simp only [zKa, beq_iff_eq, decide_eq_true_eq] at hk'
       simp only [stoOk, hk, true_and, if_true]
       rw [bldE_fill ps K r]
       simp only [putCells, hk'.1.2]
theorem build_eq {P : Program} {t : TypeId} {places : List (Nat × Nat)} {zs : Array Value} (hf : fieldsAt P t = some places) (hz : (P.info? t).bind (·.zero) = some (.agg zs)) (hp : zs.toList.all plain = true) (parts : List (Nat × AV)) (K : AV → Prop) :
   awpBuild P t parts K = bldE places (zs.toList.map .v) K parts := by
 unfold awpBuild
 simp only [hf, hz, bldE_fill]
 have : zs.all plain = true := by rw [← Array.all_toList]; exact hp
 simp only [this, true_and]
 cases fillA places (List.map AV.v zs.toList) parts <;> rfl
def bsIx (k : Nat) : List Nat → Bool
 | [] => true
 | i :: r => (i == k) && bsIx (k + 1) r
def bsAll : List AV → Bool
 | [] => true
 | x :: r => solid x && (x.cells.length == 1) && bsAll r
theorem bsIx_nil (k : Nat) : bsIx k [] = true := id rfl
theorem bsIx_cons (k i : Nat) (r : List Nat) : bsIx k (i :: r) = ((i == k) && bsIx (k + 1) r) := id rfl
theorem bsAll_nil : bsAll [] = true := id rfl
theorem bsAll_cons (x : AV) (r : List AV) : bsAll (x :: r) = (solid x && (x.cells.length == 1) && bsAll r) := id rfl
def idxE (b : Bool) (K : AV → Prop) : Option AV → Prop
 | some x => b = true ∧ K (.eptr x.cells)
 | none => False
theorem idxE_some (b : Bool) (K : AV → Prop) (x : AV) : idxE b K (some x) = (b = true ∧ K (.eptr x.cells)) := id rfl
theorem idx_lit (e sz : Nat) (xs : List AV) (k : IntKind) (n : Int) (K : AV → Prop) : awpIdx (some (e, sz)) (.sl sz xs) (.v (.int k n)) K = idxE (decide (0 ≤ n)) K xs[n.toNat]? := by
 simp only [awpIdx, asSl, if_true, eq_iff_iff]
 constructor
 · rintro ⟨⟨h0, h1⟩, h2⟩
   have hlt : n.toNat < xs.length := by omega
   rw [zIa hlt]
   exact ⟨by simpa using h0, h2 _ (zIa hlt)⟩
 · intro h
   cases hx : xs[n.toNat]? with
   | none => rw [hx] at h; exact h.elim
   | some x =>
     rw [hx] at h
     obtain ⟨h0, h1⟩ := h
     have h0' : 0 ≤ n := by simpa using h0
     have hlt : n.toNat < xs.length := by
       rcases Nat.lt_or_ge n.toNat xs.length with h' | h'
       · exact h'
       · rw [List.getElem?_eq_none h'] at hx; cases hx
     exact ⟨⟨h0', by omega⟩, fun y hy => by cases hy; exact h1⟩
theorem take_sc (n : Nat) (a : AV) (l : List AV) : (a :: l).take (n + 1) = a :: l.take n := List.take_succ_cons ..
theorem take_z (l : List AV) : l.take 0 = [] := List.take_zero
theorem alloc_eq {P : Program} {t : TypeId} {cs : Array Value} {l : List AV} (hz : (P.info? t).bind (·.zero) = some (.agg cs)) (hp : cs.toList.all plain = true) (hl : cs.toList.map .v = l) (K : AV → Prop) : awpAlloc ((P.info? t).bind (·.zero)) K = K (.box l) := by
 rw [← hl]; exact alloc_agg hz (by rw [← Array.all_toList]; exact hp) K
theorem S : type_of% (zZ (zZ (zZ (zZ (zZ (@sto_place) (@sto_box)) (zZ (@sto_pp) (@sto_pc))) (zZ (zZ (@sto_ptr) (@sto_cells)) (zZ (@stoOk_eq) (@solid_v)))) (zZ (zZ (zZ (@solid_sl) (@solid_agg)) (zZ (@solid_eptr) (@solid_ptr))) (zZ (zZ (@solid_mp) (@solid_clo)) (zZ (@cells_eptr) (zZ (@put_nil) (@put_zero)))))) (zZ (zZ (zZ (zZ (@put_succ) (@bld_nil)) (zZ (@bld_cons) (@bld_some))) (zZ (zZ (@bsIx_nil) (@bsIx_cons)) (zZ (@bsAll_nil) (@bsAll_cons)))) (zZ (zZ (zZ (@decide_true) (@Bool.and_self)) (zZ (@Bool.and_true) (@Bool.true_and))) (zZ (zZ (@take_sc) (@take_z)) (zZ (@List.length_cons.{0}) (zZ (@List.length_nil.{0}) (@eq_self.{1}))))))) := (zZ (zZ (zZ (zZ (zZ (@sto_place) (@sto_box)) (zZ (@sto_pp) (@sto_pc))) (zZ (zZ (@sto_ptr) (@sto_cells)) (zZ (@stoOk_eq) (@solid_v)))) (zZ (zZ (zZ (@solid_sl) (@solid_agg)) (zZ (@solid_eptr) (@solid_ptr))) (zZ (zZ (@solid_mp) (@solid_clo)) (zZ (@cells_eptr) (zZ (@put_nil) (@put_zero)))))) (zZ (zZ (zZ (zZ (@put_succ) (@bld_nil)) (zZ (@bld_cons) (@bld_some))) (zZ (zZ (@bsIx_nil) (@bsIx_cons)) (zZ (@bsAll_nil) (@bsAll_cons)))) (zZ (zZ (zZ (@decide_true) (@Bool.and_self)) (zZ (@Bool.and_true) (@Bool.true_and))) (zZ (zZ (@take_sc) (@take_z)) (zZ (@List.length_cons.{0}) (zZ (@List.length_nil.{0}) (@eq_self.{1})))))))
theorem G : type_of% (zZ E (zZ S (zZ @Bool.true_beq @Bool.false_beq))) := zZ E (zZ S (zZ @Bool.true_beq @Bool.false_beq))
theorem D : type_of% (zZ (zZ (@List.forall_mem_cons.{0}) (@List.not_mem_nil.{0})) (zZ (zZ @false_imp_iff @and_true) (zZ (@implies_true.{1}) (@implies_true.{0})))) := (zZ (zZ (@List.forall_mem_cons.{0}) (@List.not_mem_nil.{0})) (zZ (zZ @false_imp_iff @and_true) (zZ (@implies_true.{1}) (@implies_true.{0}))))
theorem dA {P : Program} {T : FuncId → Option Spec} {f : FuncId} {fn : Func} {c : Code} {S : Spec} (hT : ∀ f S, T f = some S → Does P f S) (hf : P.funcs[f]? = some fn) (hb : fn.body = some c)
 (hn : (fn.name == "runtime.NumGoroutine") = false ∧ dstsOk fn.ntmps c = true) (hS : ∀ args h Q, S args h Q → args.length ≤ fn.ntmps ∧ awp P T c (init args) h (hid (fun o s h' => endO o (hid (awpRet P fn.results.toList s h' Q) .mk)) .mk)) : Does P f S :=
 does_of_awp hT hf hb hn.1 hn.2 fun args h Q hs => ⟨(hS args h Q hs).1, by rw [awpFunc_some hb]; exact (hS args h Q hs).2⟩
theorem hwN (i : Nat) (h : i < 9223372036854775807) : IntKind.i64.wrap ((i : Int) + 1) = ((i + 1 : Nat) : Int) := by rw [wrap_i64 (by omega) (by omega)]; simp
end Go.Vm
namespace Go.Vm
open Go.RowKit
inductive Sh where
 | int (k : IntKind)
 | bool
 | str
 | sl (e : Sh)
 | agg (fs : List Sh)
mutual
def Sh.n : Sh → Nat
 | .agg fs => Sh.ns fs
 | _ => 1
def Sh.ns : List Sh → Nat
 | [] => 0
 | s :: r => s.n + Sh.ns r
end
mutual
def fits (P : Program) : Sh → TypeId → Bool
 | .int k, t => match P.underlying t with
   | some (.int k') => k == k'
   | _ => false
 | .bool, t => match P.underlying t with
   | some .bool => true
   | _ => false
 | .str, t => match P.underlying t with
   | some .string => true
   | _ => false
 | .sl e, t => match P.underlying t with
   | some (.slice te) => P.cellsOf te == e.n && decide (0 < e.n) && fits P e te
   | _ => false
 | .agg fs, t => match P.underlying t with
   | some (.struct xs) => P.cellsOf t == Sh.ns fs && fitsAll P fs xs.toList 0
   | _ => false
def fitsAll (P : Program) : List Sh → List Field → Nat → Bool
 | [], [], _ => true
 | s :: ss, f :: fs, o => f.offset == o && P.cellsOf f.type == s.n && fits P s f.type && fitsAll P ss fs (o + s.n)
 | _, _, _ => false
end
mutual
def IsA : Sh → AV → Prop
 | .int k, x => ∃ n, (Lit.int k n).wf = true ∧ x = .v (.int k n)
 | .bool, x => ∃ b, x = .v (.bool b)
 | .str, x => ∃ s : ByteArray, s.size ≤ maxLen ∧ x = .v (.string s)
 | .sl e, x => ∃ xs, xs.length ≤ maxLen ∧ x = .sl e.n xs ∧ ∀ y ∈ xs, IsA e y
 | .agg fs, x => ∃ ys, IsAll fs ys ∧ x = .agg (flat ys)
def IsAll : List Sh → List AV → Prop
 | [], ys => ys = []
 | s :: ss, ys => ∃ y r, ys = y :: r ∧ IsA s y ∧ IsAll ss r
end
mutual
theorem IsA.cells : ∀ (s : Sh) {x : AV}, IsA s x → x.cells.length = s.n
 | .int k, x, h => by simp only [IsA] at h; obtain ⟨n, -, rfl⟩ := h; rfl
 | .bool, x, h => by simp only [IsA] at h; obtain ⟨n, rfl⟩ := h; rfl
 | .str, x, h => by simp only [IsA] at h; obtain ⟨n, -, rfl⟩ := h; rfl
 | .sl e, x, h => by simp only [IsA] at h; obtain ⟨n, -, rfl, -⟩ := h; rfl
 | .agg fs, x, h => by
   simp only [IsA] at h
   obtain ⟨ys, h, rfl⟩ := h
   simpa [AV.cells, Sh.n] using IsAll.cells fs h
theorem IsAll.cells : ∀ (ss : List Sh) {ys : List AV}, IsAll ss ys → (flat ys).length = Sh.ns ss
 | [], ys, h => by simp only [IsAll] at h; subst h; rfl
 | s :: ss, ys, h => by
   simp only [IsAll] at h
   obtain ⟨y, r, rfl, h1, h2⟩ := h
   have e1 := IsA.cells s h1
   have e2 := IsAll.cells ss h2
   simp only [flat, List.flatMap_cons, List.length_append, Sh.ns] at e2 ⊢
   omega
end
def InCells (w : World) (g : Gh) (us : List AV) (cs : List Value) : Prop :=
 ∀ j u, us[j]? = some u → (cs.getD j undef).oneCell' = true ∧ Rep w g u (cs.getD j undef)
theorem InCells.one {w : World} {g : Gh} {u : AV} {v : Value} (h1 : v.oneCell' = true) (h : Rep w g u v) : InCells w g [u] [v] := by
 intro j x hx
 rcases j with _ | j
 · simp only [List.getElem?_cons_zero, Option.some.injEq] at hx; subst hx; exact ⟨h1, h⟩
 · simp at hx
theorem startG_spot {w : World} {a : Addr} {v : Value} (h : w.cell? a = some v) : a = ⟨a.block, a.off, none⟩ := by
 unfold World.cell? at h
 split at h
 · cases hs : a.spot with
   | none => cases a; simp_all
   | some y => simp [hs] at h
 · cases h
theorem in_add {a : Addr} (hx : a = ⟨a.block, a.off, none⟩) (j : Nat) : a.add j = ⟨a.block, a.off + j, none⟩ := by
 unfold Addr.add; split
 · rename_i h0; subst h0; simpa using hx
 · rfl
section
variable {H : Type} {enc : TypeId × Value → H} {P : Program} {w : World} {held : Bool}
mutual
theorem trod_isA : ∀ (s : Sh) {t : TypeId} {fuel : Nat} {cs : List Value} {x : DataW H × List MemPlace}, fits P s t = true → DataW.trod enc P w 0 (fun _ => true) held fuel t cs = some x →
   ∃ y, IsA s y ∧ cs.length = s.n ∧ InCells w (startG w) y.cells cs
 | .int k, t, fuel, cs, x, hf, h => by
   simp only [fits] at hf
   split at hf
   · rename_i k' hu
     obtain rfl : k = k' := by cases k <;> cases k' <;> first | rfl | (cases hf)
     obtain ⟨n, rfl, -, hw⟩ := DataW.trod_int hu h
     exact ⟨_, by simp only [IsA]; exact ⟨n, hw, rfl⟩, rfl, .one rfl (.v rfl)⟩
   · cases hf
 | .bool, t, fuel, cs, x, hf, h => by
   simp only [fits] at hf
   split at hf
   · rename_i hu
     obtain ⟨b, rfl, -⟩ := DataW.trod_bool hu h
     exact ⟨_, by simp only [IsA]; exact ⟨b, rfl⟩, rfl, .one rfl (.v rfl)⟩
   · cases hf
 | .str, t, fuel, cs, x, hf, h => by
   simp only [fits] at hf
   split at hf
   · rename_i hu
     obtain ⟨s, rfl, -, hs⟩ := DataW.trod_string hu h
     exact ⟨_, by simp only [IsA]; exact ⟨s, hs, rfl⟩, rfl, .one rfl (.v rfl)⟩
   · cases hf
 | .sl e, t, fuel, cs, x, hf, h => by
   simp only [fits] at hf
   split at hf
   · rename_i te hu
     simp only [zKa, beq_iff_eq, decide_eq_true_eq] at hf
     obtain ⟨⟨hc, hpos⟩, hfe⟩ := hf
     rcases Deep.open_slice hu h with ⟨rfl, -⟩ | ⟨a, len, cap, m, n, D, Pl, rfl, -, hl, hm, hmm, -, hx⟩
     · exact ⟨.sl e.n [], by simp only [IsA]; exact ⟨[], Nat.zero_le _, rfl, by simp⟩, rfl, .one rfl (.nil _)⟩
     · rw [show m = cap from hmm, hc] at hx
       by_cases h0 : len = 0
       · subst h0
         exact ⟨.sl e.n [], by simp only [IsA]; exact ⟨[], Nat.zero_le _, rfl, by simp⟩, rfl, .one rfl (.empty _ a cap hm)⟩
       · have each : ∀ i, ∃ y, i < len → ∃ cs', w.cells? 0 (a.add (i * e.n)) e.n = some cs' ∧ IsA e y ∧ InCells w (startG w) y.cells cs' := fun i => by
           by_cases hi : i < len
           · obtain ⟨cs', h1, h2⟩ := hx i (by omega)
             obtain ⟨y, k1, -, k3⟩ := trod_isA e hfe h2
             exact ⟨y, fun _ => ⟨cs', h1, k1, k3⟩⟩
           · exact ⟨.any, fun h => absurd h hi⟩
         obtain ⟨f, hf⟩ := Classical.axiomOfChoice each
         have hax : a = ⟨a.block, a.off, none⟩ := by
           obtain ⟨cs', h1, -, -⟩ := hf 0 (by omega)
           obtain ⟨-, hlen, hc'⟩ := World.cells?_some h1
           have := hc' 0 hpos
           rw [zIa (by omega)] at this
           simp only [Nat.zero_mul, Addr.add, if_true] at this
           exact startG_spot this
         have hu' : ∀ y ∈ (List.range len).map f, y.cells.length = e.n := fun y hy => by
           obtain ⟨i, hi, rfl⟩ := List.mem_map.1 hy
           obtain ⟨cs', -, h2, -⟩ := hf i (by simpa using hi)
           exact IsA.cells e h2
         have hlen : ((List.range len).map f).length = len := by simp
         refine ⟨.sl e.n ((List.range len).map f), ?_, rfl, ?_⟩
         · simp only [IsA]
           refine ⟨_, by rw [hlen]; omega, rfl, fun y hy => ?_⟩
           obtain ⟨i, hi, rfl⟩ := List.mem_map.1 hy
           obtain ⟨cs', -, h2, -⟩ := hf i (by simpa using hi)
           exact h2
         · refine .one rfl ?_
           have cell : ∀ j u, (flat ((List.range len).map f))[j]? = some u → ∃ v, w.cell? ⟨a.block, a.off + j, none⟩ = some v ∧ v.oneCell' = true ∧ Rep w (startG w) u v := fun j u hj => by
             have hlt : j < len * e.n := by
               rcases Nat.lt_or_ge j (len * e.n) with h' | h'
               · exact h'
               · rw [List.getElem?_eq_none (by rw [flat_length hu', hlen]; exact h')] at hj; cases hj
             have hi : j / e.n < len := (Nat.div_lt_iff_lt_mul hpos).2 hlt
             have hr : j % e.n < e.n := Nat.mod_lt _ hpos
             have hdm : j / e.n * e.n + j % e.n = j := by rw [Nat.mul_comm]; exact Nat.div_add_mod j e.n
             obtain ⟨cs', h1, h2, h3⟩ := hf _ hi
             obtain ⟨-, hlen', hc'⟩ := World.cells?_some h1
             have hg : (flat ((List.range len).map f))[j / e.n * e.n + j % e.n]? = (f (j / e.n)).cells[j % e.n]? :=
               flat_get hu' (by rw [List.getElem?_map, List.getElem?_range hi]; rfl) _ hr
             rw [hdm, hj] at hg
             obtain ⟨k1, k2⟩ := h3 _ _ hg.symm
             have hcell := hc' _ hr
             rw [zIa (by omega), Deep.add_add, hdm, in_add hax] at hcell
             have e1 : cs'.getD (j % e.n) undef = cs'[j % e.n]'(by omega) := by simp [zJa, zIa (show j % e.n < cs'.length by omega)]
             rw [e1] at k1 k2
             exact ⟨_, hcell, k1, k2⟩
           have cell' : ∀ j, ∃ v, ∀ u, (flat ((List.range len).map f))[j]? = some u → w.cell? ⟨a.block, a.off + j, none⟩ = some v ∧ v.oneCell' = true ∧ Rep w (startG w) u v := fun j => by
             cases hj : (flat ((List.range len).map f))[j]? with
             | none => exact ⟨undef, fun u hu => by cases hu⟩
             | some u =>
               obtain ⟨v, h1, h2, h3⟩ := cell j u hj
               exact ⟨v, fun u' hu => by cases hu; exact ⟨h1, h2, h3⟩⟩
           obtain ⟨vs, hvs⟩ := Classical.axiomOfChoice cell'
           have key := Rep.sl (w := w) (g := startG w) (sz := e.n) (xs := (List.range len).map f) (b := a.block) (o := a.off) (c := cap) vs (by rw [hlen]; exact hl) hm hpos hu'
             (fun j u hj => ⟨(hvs j u hj).1, startG_cell (hvs j u hj).1, (hvs j u hj).2.1⟩) (fun j u hj => (hvs j u hj).2.2)
           rw [hlen, ← hax] at key
           exact key
   · cases hf
 | .agg ss, t, fuel, cs, x, hf, h => by
   simp only [fits] at hf
   split at hf
   · rename_i fs hu
     simp only [zKa, beq_iff_eq] at hf
     obtain ⟨hc, hfa⟩ := hf
     obtain ⟨xs, n, -, -, hl, hlen, hall⟩ := DataW.trod_struct hu h
     obtain ⟨ys, h1, h2⟩ := trods_isA ss (fs := fs.toList) (o := 0) (cs := cs) hfa (fun f hf => by
       obtain ⟨i, hi, hfi⟩ := List.getElem_of_mem hf
       have hi' : i < fs.size := by simpa using hi
       have := hall i f (by rw [← hfi]; simp [hi'])
       rw [zIa (by omega)] at this
       exact ⟨n, _, this⟩)
     refine ⟨.agg (flat ys), by simp only [IsA]; exact ⟨ys, h1, rfl⟩, by rw [hl, hc]; rfl, fun j u hu => ?_⟩
     have := h2 j u hu
     rwa [Nat.zero_add] at this
   · cases hf
theorem trods_isA : ∀ (ss : List Sh) {fs : List Field} {o : Nat} {cs : List Value}, fitsAll P ss fs o = true →
   (∀ f ∈ fs, ∃ n x, DataW.trod enc P w 0 (fun _ => true) held n f.type ((cs.drop f.offset).take (P.cellsOf f.type)) = some x) →
   ∃ ys, IsAll ss ys ∧ ∀ j u, (flat ys)[j]? = some u → (cs.getD (o + j) undef).oneCell' = true ∧ Rep w (startG w) u (cs.getD (o + j) undef)
 | [], fs, o, cs, hf, h => ⟨[], by simp only [IsAll], fun j u hu => by simp [flat] at hu⟩
 | s :: ss, fs, o, cs, hf, h => by
   cases fs with
   | nil => simp [fitsAll] at hf
   | cons f fs =>
     simp only [fitsAll, zKa, beq_iff_eq] at hf
     obtain ⟨⟨⟨ho, hc⟩, hfs⟩, hfa⟩ := hf
     obtain ⟨n, x, hx⟩ := h f (List.mem_cons_self ..)
     rw [ho, hc] at hx
     obtain ⟨y, h1, h2, h3⟩ := trod_isA s hfs hx
     obtain ⟨ys, h4, h5⟩ := trods_isA ss (cs := cs) hfa fun f' hf' => h f' (List.mem_cons_of_mem _ hf')
     refine ⟨y :: ys, by simp only [IsAll]; exact ⟨y, ys, rfl, h1, h4⟩, fun j u hu => ?_⟩
     have hcy := IsA.cells s h1
     simp only [flat, List.flatMap_cons] at hu
     by_cases hj : j < s.n
     · rw [List.getElem?_append_left (by omega)] at hu
       have e : ((cs.drop o).take s.n).getD j undef = cs.getD (o + j) undef := by
         simp only [zJa, List.getElem?_take, hj, if_true, List.getElem?_drop]
       have := h3 j u hu
       rwa [e] at this
     · rw [List.getElem?_append_right (by omega), hcy] at hu
       have := h5 (j - s.n) u hu
       rwa [show o + s.n + (j - s.n) = o + j by omega] at this
end
theorem arg_isA (s : Sh) {t : TypeId} {r : Reach} {b0 : Nat} {v : Value} {d : DataW H} {p : List MemPlace} (hf : fits P s t = true) (hv : Value.okWide P w r b0 t v) (h : DataW.Trod enc P w 0 (fun _ => true) held t v d p) :
   ∃ y, IsA s y ∧ Rep w (startG w) y v := by
 obtain ⟨fuel, h⟩ := h
 obtain ⟨y, h1, h2, h3⟩ := trod_isA s hf h
 refine ⟨y, h1, ?_⟩
 have single : ∀ v', v = v' → v'.cells.toList = [v'] → y.cells = [y] → Rep w (startG w) y v := fun v' e1 e2 e3 => by
   subst e1
   rw [e3, e2] at h3
   exact (h3 0 y rfl).2
 cases s with
 | agg fs =>
   simp only [fits] at hf
   split at hf
   · rename_i xs hu
     unfold Value.okWide at hv
     rw [hu] at hv
     obtain ⟨cs, rfl, hsz, -⟩ := hv
     simp only [IsA] at h1
     obtain ⟨ys, h1, rfl⟩ := h1
     have hlen := IsAll.cells fs h1
     simp only [Value.cells, Sh.n] at h2
     refine .agg (by rw [hlen]; simpa using h2) (fun j hj => ?_) (fun j u hu => ?_)
     · have hj' : j < (flat ys).length := by rw [hlen]; simp at h2; omega
       have := (h3 j _ (zIa hj')).1
       simpa [Value.cells, zJa, Array.getD_eq_getD_getElem?] using this
     · have := (h3 j u hu).2
       simpa [Value.cells, zJa, Array.getD_eq_getD_getElem?] using this
   · cases hf
 | int k =>
   simp only [fits] at hf
   split at hf
   · rename_i k' hu
     obtain ⟨n, rfl⟩ := WideShapes.okWide_int hu hv
     simp only [IsA] at h1; obtain ⟨n, -, rfl⟩ := h1
     exact single _ rfl rfl rfl
   · cases hf
 | bool =>
   simp only [fits] at hf
   split at hf
   · rename_i hu
     obtain ⟨n, rfl⟩ := WideShapes.okWide_bool hu hv
     simp only [IsA] at h1; obtain ⟨n, rfl⟩ := h1
     exact single _ rfl rfl rfl
   · cases hf
 | str =>
   simp only [fits] at hf
   split at hf
   · rename_i hu
     obtain ⟨n, rfl⟩ := WideShapes.okWide_string hu hv
     simp only [IsA] at h1; obtain ⟨n, -, rfl⟩ := h1
     exact single _ rfl rfl rfl
   · cases hf
 | sl e =>
   simp only [fits] at hf
   split at hf
   · rename_i te hu
     obtain ⟨a, len, cap, rfl⟩ := WideShapes.okWide_slice hu hv
     simp only [IsA] at h1; obtain ⟨n, -, rfl, -⟩ := h1
     exact single _ rfl rfl rfl
   · cases hf
end
end Go.Vm
