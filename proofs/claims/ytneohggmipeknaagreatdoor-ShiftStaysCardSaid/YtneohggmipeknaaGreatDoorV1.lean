/- An interpreter over abstract values, and that it is sound. -/
import Derived.Test.YtneohggmipeknaaGreatDoorV0
import Derived.MapFrom
import Derived.Maps.RangeRun
import Derived.Laws.Tables
import Derived.Laws.BytesArg
import Derived.Laws.StructEq
import Derived.ChangeKeysEq
import Derived.Laws.IdiomStrings
import Derived.Laws.IdiomCopy
import Derived.OrdersHeld
import Derived.Deep.LoopGhost
import Derived.Scope
import Derived.Control
open And renaming intro → zZ
open List renaming getD_eq_getElem?_getD → zIa, getElem?_eq_none → zJa, getElem?_cons_zero → zKa, getElem?_eq_getElem → zLa, getElem?_append_right → zNa, getElem?_append_left → zOa, getElem?_cons_succ → zPa, toArray → zQa, eq_nil_of_length_eq_zero → zRa, getElem?_take → zSa, getElem?_drop → zUa, getElem_mem → zWa, getElem?_toArray → zYa, range → zIb, append_assoc → zJb, length_cons → zLb, mapM_cons → zMb, drop_eq_nil_of_le → zNb, mem_iff_getElem? → zPb, mem_of_getElem? → zQb
open Nat renaming lt_or_ge → zMa, le_refl → zVa, zero_add → zKb
open Bool renaming and_eq_true → zTa, false_eq_true → zOb
open Option renaming getD_some → zXa
set_option linter.unusedVariables false
set_option linter.unusedSimpArgs false
namespace Go.Vm
open Go.RowKit
section
variable {P : Program} {H : Hst} {w0 w w' : World} {g0 g g' : Gh} {s : Slots} {h h' : Heap} {a : Act} {o : Oper} {K : AV → Slots → Heap → Prop} {Q : Exit → Act → World → Prop}
theorem keyEq_iff {d : TypeDesc} {x y : Value} (hx : MapKept.IsKey d x) (hy : MapKept.IsKey d y) : keyEq x y = true ↔ y = x := by
 cases d <;> cases x <;> cases y <;> simp only [MapKept.IsKey] at hx hy
 case bool.bool.bool x y => simp only [keyEq, beq_iff_eq, Value.bool.injEq]; exact eq_comm
 case int.int.int k k1 x k2 y => subst hx; subst hy; simp only [keyEq, decide_true, Bool.true_and, beq_iff_eq, Value.int.injEq, true_and]; exact eq_comm
 case string.string.string x y => simp only [keyEq, MapKept.bytes_beq, Value.string.injEq]; exact eq_comm
theorem R.adopt (r : R H w0 g0 s h g a w) {b : Nat} {x : AObj} (hp : ∀ i, privB (s i) (tmOf a i) ≠ some b) (hl : ∀ k, k < g.n → g.loc k ≠ b) (hB : w0.heap.size ≤ b) (hlt : b < w.heap.size)
   (hobj : ∀ g', Keeps w g w g' → g'.pub = g.pub → ObjRep w g' x b) :
   ∃ g', R H w0 g0 s (h ++ [x]) g' a w ∧ Keeps w g w g' ∧ h.length < g'.n ∧ g'.loc h.length = b ∧ g'.pub = g.pub := by
 have hn := r.heap.n
 have hk : Keeps w g w { g with n := g.n + 1, loc := fun i => if i = g.n then b else g.loc i } :=
   ⟨fun _ => zVa _, fun _ _ _ _ h => h, Nat.le_succ _, fun i hi => by simp only []; rw [if_neg (by omega)]⟩
 refine ⟨_, ?_, hk, by simp only []; omega, by simp [hn], rfl⟩
 refine ⟨r.defers, fun i => (r.slots i).keepAt hk fun b' _ => ⟨rfl, rfl⟩, r.apart, fun i b' hi k hk' => ?_, ?_, r.frame, Nat.le_trans r.n0 (Nat.le_succ _), fun i hi => ?_, r.old, fun i hi h0 => ?_, r.fresh, fun i cs hi => (r.laid i cs hi).keep hk, r.kept.trans hk⟩
 · simp only [] at hk' ⊢
   split
   · exact fun e => hp i (e ▸ hi)
   · exact r.sep i b' hi k (by omega)
 · refine ⟨by simp [hn], fun i hi => ?_, fun i j hi hj e => ?_, fun i o' ho => ?_⟩
   · simp only [] at hi ⊢
     split
     · exact hlt
     · exact r.heap.lt i (by omega)
   · simp only [] at hi hj e
     split at e <;> split at e
     · omega
     · exact absurd e.symm (hl j (by omega))
     · exact absurd e (hl i (by omega))
     · exact r.heap.inj i j (by omega) (by omega) e
   · simp only []
     rcases zMa i h.length with hlt' | hge
     · rw [zOa hlt'] at ho
       rw [if_neg (by omega)]
       exact (r.heap.obj i o' ho).keepAt hk ⟨rfl, rfl⟩
     · rw [zNa hge] at ho
       have hi0 : i - h.length = 0 := by
         rcases Nat.eq_zero_or_pos (i - h.length) with h0 | h0
         · exact h0
         · rw [zJa (by simp only [zLb, List.length_nil]; omega)] at ho; cases ho
       rw [hi0] at ho
       simp only [zKa, Option.some.injEq] at ho
       subst ho
       rw [if_pos (by omega)]
       exact hobj _ hk rfl
 · have := r.n0
   simp only []; rw [if_neg (by omega)]; exact r.loc0 i hi
 · simp only [] at hi ⊢
   split
   · exact hB
   · exact r.loc1 i (by omega) h0
theorem sound_makeMap {N : Nat} {t : TypeId} (ho : o.op = .makeMap t none) (r : R H w0 g0 s h g a w) (hN : a.tmps.size = N) (hd : ∀ d, o.dst = some d → d < N)
   (hK : K (.mp h.length) s (h ++ [.map [] 0])) : o.wp P a w (Aft N H w0 g0 o K) Q := by
 have r2 := r.alloc (.map #[] 0)
 have hnew := r.sep_new
 obtain ⟨g1, r3, k3, q1, q2, q3⟩ := r2.adopt (b := w.heap.size) (x := .map [] 0) hnew.1 hnew.2 r.frame.size (by simp [World.alloc_eq]) (fun g' _ hp => by
   refine ⟨?_, #[], heap_alloc_new w _, rfl, fun j u hu => by simp at hu⟩
   rw [hp]; exact r.fresh _ (zVa _))
 unfold Oper.wp
 have hrun : (execOp a.eval o).run P w = .ok (.value (.map (some w.heap.size))) (w.alloc (.map #[] 0)) := by
   simp only [execOp, ho, Instr.makeMap, newObj, Sem.run_bind, Option.map_none]
   rfl
 rw [hrun, Oper.upon_value]
 have hrep : Rep (w.alloc (.map #[] 0)) g1 (.mp h.length) (.map (some w.heap.size)) := by
   have := Rep.mp (w := w.alloc (.map #[] 0)) (g := g1) h.length q1
   rwa [q2] at this
 refine ⟨_, s, _, g1, hK, ?_, by rw [size_put]; exact hN⟩
 cases ho : o.dst with
 | none => exact r3
 | some d => exact r3.put_rep (by rw [hN]; exact hd d ho) hrep
theorem map_obj (r : R H w0 g0 s h g a w) {id : Nat} {es : List Ent} {clock : Nat} (ho : h[id]? = some (.map es clock)) :
   id < g.n ∧ g.pub (g.loc id) = 0 ∧ ∃ en, w.heap[g.loc id]? = some (.map en clock) ∧ en.size = es.length ∧
     ∀ (j : Nat) (u : Ent), es[j]? = some u → ∃ q, en[j]? = some q ∧ q.key = u.key ∧ q.born = u.born ∧ plain u.key = true ∧ Rep w g u.val q.val := by
 obtain ⟨h1, en, h2, h3, h4⟩ := r.heap.obj id _ ho
 exact ⟨heap_lt r ho, h1, en, h2, h3, h4⟩
theorem find_both {d : TypeDesc} {k : Value} (hk : MapKept.IsKey d k) : ∀ (es : List Ent) (en : List MapEntry) (i : Nat), en.length = es.length →
   (∀ (j : Nat) (u : Ent), es[j]? = some u → ∃ q, en[j]? = some q ∧ q.key = u.key ∧ q.born = u.born ∧ plain u.key = true ∧ Rep w g u.val q.val) → (∀ e ∈ es, MapKept.IsKey d e.key) →
   (Instr.findNow d k en i = some none ∧ mget k es = none) ∨ ∃ j u q, Instr.findNow d k en i = some (some (i + j, q.val)) ∧ mget k es = some u ∧ es[j]? = some u ∧ en[j]? = some q ∧ u.key = k ∧ q.key = k
     ∧ (∀ e ∈ es.take j, keyEq k e.key = false)
 | [], [], i, _, _, _ => .inl ⟨rfl, rfl⟩
 | [], _ :: _, _, h, _, _ => by simp at h
 | _ :: _, [], _, h, _, _ => by simp at h
 | e :: es, q :: en, i, hl, hen, hks => by
   obtain ⟨q0, h1, h2, h3, h4, h5⟩ := hen 0 e rfl
   simp only [zKa, Option.some.injEq] at h1
   subst h1
   have hke := hks e (List.mem_cons_self ..)
   obtain ⟨b, hb, hbi⟩ := MapKept.sameNow_of_keys hk (by rw [h2]; exact hke : MapKept.IsKey d q.key)
   rw [h2] at hb hbi
   have hkb := keyEq_iff hk hke
   cases b with
   | true =>
     have he : e.key = k := (hbi.1 rfl).symm
     exact .inr ⟨0, e, q, by simp [Instr.findNow, h2, hb], by simp [mget, hkb.2 he], rfl, rfl, he, h2.trans he, by simp⟩
   | false =>
     have hne : keyEq k e.key = false := by
       cases hq : keyEq k e.key
       · rfl
       · have := hbi.2 (hkb.1 hq).symm; cases this
     rcases find_both hk es en (i + 1) (by simpa using hl) (fun j u hu => hen (j + 1) u (by simpa using hu)) (fun x hx => hks x (List.mem_cons_of_mem _ hx)) with ⟨p1, p2⟩ | ⟨j, u, q', p1, p2, p3, p4, p5, p6, p7⟩
     · exact .inl ⟨by simp [Instr.findNow, h2, hb, p1], by simpa [mget, hne] using p2⟩
     · refine .inr ⟨j + 1, u, q', by simp [Instr.findNow, h2, hb, p1]; omega, by simpa [mget, hne] using p2, by simpa using p3, by simpa using p4, p5, p6, ?_⟩
       intro x hx
       simp only [List.take_succ_cons, List.mem_cons] at hx
       rcases hx with rfl | hx
       · exact hne
       · exact p7 x hx
theorem withKey_spec {t : TypeId} {k : AV} {KK : TypeDesc → TypeId → Value → Prop} (hK : withKey P t k KK) :
   ∃ kt et d kv, P.underlying t = some (.map kt et) ∧ P.underlying kt = some d ∧ k = .v kv ∧ MapKept.IsKey d kv ∧ KK d et kv := by
 unfold withKey at hK
 split at hK
 · rename_i kt et hu
   split at hK
   · rename_i d kv hd
     exact ⟨kt, et, d, kv, hu, hd, rfl, hK.1, hK.2⟩
   · exact hK.elim
 · exact hK.elim
theorem rep_lookRes {ok b : Bool} {x : AV} {v : Value} (h : Rep w g x v) : Rep w g (lookRes ok x b) (if ok then .tuple #[v, .bool b] else v) := by
 cases ok
 · exact h
 · refine .tup rfl fun j u hu => ?_
   match j with
   | 0 => simp at hu; subst hu; exact h
   | 1 => simp at hu; subst hu; exact .v rfl
   | j + 2 => simp at hu
theorem sound_lookup {N : Nat} {t : TypeId} {m k : Operand} {ok : Bool} (ho : o.op = .lookup t m k ok) (r : R H w0 g0 s h g a w) (hN : a.tmps.size = N) (hd : ∀ d, o.dst = some d → d < N)
   (hK : awpLookup P t (ev s m) (ev s k) ok h fun v => K v s h) : o.wp P a w (Aft N H w0 g0 o K) Q := by
 obtain ⟨kt, et, d, kv, hu, hkd, hek, hkk, hK⟩ := withKey_spec hK
 have hk := r.eval k
 rw [hek] at hk
 have hkv : a.eval k = kv := (rep_v hk).1
 have hm := r.eval m
 -- what is there not
 have miss : ∀ es : Array MapEntry, Instr.findNow d kv es.toList 0 = some none → (match (P.info? et).bind (·.zero) with | some z => K (lookRes ok (cst z) false) s h | none => False) →
     (∀ e : Bool, True) → ((a.eval m = .map none ∧ es = #[]) ∨ ∃ b clock, a.eval m = .map (some b) ∧ w.heap[b]? = some (.map es clock)) → o.wp P a w (Aft N H w0 g0 o K) Q := by
   intro es hf hz _ hmm
   cases hzz : (P.info? et).bind (·.zero) with
   | none => rw [hzz] at hz; exact hz.elim
   | some z =>
     rw [hzz] at hz
     have hzr : (zeroValue et).run P w = .ok z w := by
       cases hi : P.info? et with
       | none => rw [hi] at hzz; cases hzz
       | some i =>
         rw [hi] at hzz
         have : i.zero = some z := hzz
         simp [zeroValue, typeInfo, hi, this]
     refine aft_rep r hN hd ?_ (rep_lookRes (cst_rep w g z)) hz
     rcases hmm with ⟨hm1, rfl⟩ | ⟨b, clock, hm1, hb⟩
     · have hf' : (Instr.findKey kt kv (#[] : Array MapEntry).toList).run P w = .ok none w := MapKept.run_findKey hkd hf
       simp only [execOp, ho, Instr.lookup, Sem.run_bind, run_underlying hu, Result.andThen, hm1, Sem.run_pure, hkv, MapKept.run_checkKey hkd hkk, hf', hzr]
       try (cases ok <;> rfl)
     · have hf' : (Instr.findKey kt kv es.toList).run P w = .ok none w := MapKept.run_findKey hkd hf
       simp only [execOp, ho, Instr.lookup, Sem.run_bind, run_underlying hu, Result.andThen, hm1, MapKept.run_getObj_map hb, Sem.run_pure, hkv, MapKept.run_checkKey hkd hkk, hf', hzr]
       try (cases ok <;> rfl)
 unfold withMap at hK
 split at hK
 · rename_i he
   rw [he] at hm
   have hm1 : a.eval m = .map none := (rep_v hm).1
   exact miss #[] rfl (hK.2.2 rfl) (fun _ => trivial) (.inl ⟨hm1, rfl⟩)
 · rename_i id he
   rw [he] at hm
   split at hK
   · rename_i es clock hob
     obtain ⟨hks, hK1, hK2⟩ := hK
     obtain ⟨hid, -, en, hw, hsz, hen⟩ := map_obj r hob
     have hmv : a.eval m = .map (some (g.loc id)) := by
       have hm' : Rep w g (.mp id) (a.eval m) := hm
       generalize a.eval m = v at hm'
       cases hm'; rfl
     rcases find_both (w := w) (g := g) hkk es en.toList 0 (by simpa using hsz) (fun j u hu => by rw [Array.getElem?_toList]; exact hen j u hu) hks with ⟨p1, p2⟩ | ⟨j, u, q, p1, p2, p3, p4, p5, p6, p7⟩
     · exact miss en p1 (hK2 p2) (fun _ => trivial) (.inr ⟨_, clock, hmv, hw⟩)
     · obtain ⟨q', q1, q2, q3, q4, q5⟩ := hen j u p3
       rw [Array.getElem?_toList, q1] at p4
       cases p4
       refine aft_rep r hN hd ?_ (rep_lookRes q5) (hK1 u p2)
       have hf' : (Instr.findKey kt kv en.toList).run P w = .ok (some (0 + j, q.val)) w := MapKept.run_findKey hkd p1
       simp only [execOp, ho, Instr.lookup, Sem.run_bind, run_underlying hu, Result.andThen, hmv, MapKept.run_getObj_map hw, Sem.run_pure, hkv, MapKept.run_checkKey hkd hkk, hf']
       try (cases ok <;> rfl)
   · exact hK.elim
 · exact hK.elim
theorem withObj_spec {m : AV} {h : Heap} {KK : Nat → List Ent → Nat → Prop} (hK : withObj m h KK) : ∃ id es clock, m = .mp id ∧ h[id]? = some (.map es clock) ∧ KK id es clock := by
 unfold withObj at hK
 split at hK
 · rename_i id
   split at hK
   · rename_i es clock ho
     exact ⟨id, es, clock, rfl, ho, hK⟩
   · exact hK.elim
 · exact hK.elim
abbrev setB (w : World) (b : Nat) (x : Obj) : World := { w with heap := w.heap.setIfInBounds b x }
theorem setB_other (w : World) (b : Nat) (x : Obj) (k : Nat) (hk : k ≠ b) : (setB w b x).heap[k]? = w.heap[k]? := by
 simp only [setB]; rw [Array.getElem?_setIfInBounds_ne (Ne.symm hk)]
theorem keeps_setB (b : Nat) (x : Obj) (h0 : g.pub b = 0) : Keeps w g (setB w b x) g :=
 ⟨fun _ => zVa _, fun b' j v hj hv => by
   rw [World.cell?_of_block (a := ⟨b', j, none⟩) (setB_other w b x b' fun e => by subst e; omega)]; exact hv, zVa _, fun _ _ => rfl⟩
theorem R.setMap (r : R H w0 g0 s h g a w) {id : Nat} {es es' : List Ent} {clock clock' : Nat} {en' : Array MapEntry} (ho : h[id]? = some (.map es clock)) (hsz : en'.size = es'.length)
   (hen : ∀ (j : Nat) (u : Ent), es'[j]? = some u → ∃ q, en'[j]? = some q ∧ q.key = u.key ∧ q.born = u.born ∧ plain u.key = true ∧ Rep w g u.val q.val) :
   R H w0 g0 s (h.set id (.map es' clock')) g a (setB w (g.loc id) (.map en' clock')) := by
 obtain ⟨hid, h0, en, hw, -, -⟩ := map_obj r ho
 have hlt := lt_of_heap hw
 have hk := keeps_setB (w := w) (g := g) (g.loc id) (.map en' clock') h0
 refine r.setObj ho hk (fun k hk => setB_other w _ _ k hk) (by simp [setB]) ⟨rfl, rfl, rfl⟩ ⟨h0, en', by simp [setB, hlt], hsz, fun j u hu => ?_⟩
 obtain ⟨q, q1, q2, q3, q4, q5⟩ := hen j u hu
 exact ⟨q, q1, q2, q3, q4, q5.keep hk⟩
theorem plain_key {d : TypeDesc} {k : Value} (hk : MapKept.IsKey d k) : plain k = true := by
 cases d <;> cases k <;> simp_all [MapKept.IsKey, plain]
theorem mput_miss {k : Value} {v : AV} {clock : Nat} : ∀ {es : List Ent}, mget k es = none → mput k v clock es = es ++ [⟨k, v, clock⟩]
 | [], _ => rfl
 | e :: es, h => by
   simp only [mget, List.find?_cons] at h
   split at h
   · cases h
   · rename_i hne
     simp only [mput, hne, List.cons_append]
     rw [mput_miss (es := es) h]; rfl
theorem mput_hit {k : Value} {v : AV} {clock : Nat} : ∀ {es : List Ent} {j : Nat} {u : Ent}, es[j]? = some u → keyEq k u.key = true → (∀ e ∈ es.take j, keyEq k e.key = false) →
   mput k v clock es = es.set j ⟨k, v, u.born⟩
 | [], j, u, h, _, _ => by simp at h
 | e :: es, 0, u, h, hk, _ => by
   simp only [zKa, Option.some.injEq] at h
   subst h
   simp [mput, hk]
 | e :: es, j + 1, u, h, hk, hp => by
   have he := hp e (by simp)
   simp only [mput, he, List.set_cons_succ]
   rw [mput_hit (es := es) (j := j) (u := u) (by simpa using h) hk (fun x hx => hp x (by simp [hx]))]; rfl
theorem mdel_miss {k : Value} : ∀ {es : List Ent}, mget k es = none → mdel k es = es
 | [], _ => rfl
 | e :: es, h => by
   simp only [mget, List.find?_cons] at h
   split at h
   · cases h
   · rename_i hne
     simp only [mdel, hne]
     rw [mdel_miss (es := es) h]; rfl
theorem mdel_hit {k : Value} : ∀ {es : List Ent} {j : Nat} {u : Ent}, es[j]? = some u → keyEq k u.key = true → (∀ e ∈ es.take j, keyEq k e.key = false) → mdel k es = es.eraseIdx j
 | [], j, u, h, _, _ => by simp at h
 | e :: es, 0, u, h, hk, _ => by
   simp only [zKa, Option.some.injEq] at h
   subst h
   simp [mdel, hk]
 | e :: es, j + 1, u, h, hk, hp => by
   have he := hp e (by simp)
   simp only [mdel, he, List.eraseIdx_cons_succ]
   rw [mdel_hit (es := es) (j := j) (u := u) (by simpa using h) hk (fun x hx => hp x (by simp [hx]))]; rfl
theorem sound_update {N : Nat} {t : TypeId} {m k x : Operand} (ho : o.op = .mapUpdate t m k x ∨ o.op = .insert t m k x) (r : R H w0 g0 s h g a w) (hN : a.tmps.size = N) (hd : ∀ d, o.dst = some d → d < N)
   (hK : awpUpdate P t (ev s m) (ev s k) (frz s x).1 h fun h' => K .any (frz s x).2 h') : o.wp P a w (Aft N H w0 g0 o K) Q := by
 obtain ⟨kt, et, d, kv, hu, hkd, hek, hkk, hK⟩ := withKey_spec hK
 obtain ⟨id, es, clock, hem, hob, hks, hK⟩ := withObj_spec hK
 have hk := r.eval k
 rw [hek] at hk
 have hkv : a.eval k = kv := (rep_v hk).1
 have hm := r.eval m
 rw [hem] at hm
 obtain ⟨g1, r1, k1, p1, n1⟩ := r.frz x
 obtain ⟨hid, h0, en, hw, hsz, hen⟩ := map_obj r1 hob
 have hmv : a.eval m = .map (some (g1.loc id)) := by
   have hm' : Rep w g1 (.mp id) (a.eval m) := Rep.keep k1 hm
   generalize a.eval m = v at hm'
   cases hm'; rfl
 have fin : ∀ (en' : Array MapEntry) (clock' : Nat) (es' : List Ent), (∀ (j : Nat) (u : Ent), es'[j]? = some u → ∃ q, en'[j]? = some q ∧ q.key = u.key ∧ q.born = u.born ∧ plain u.key = true ∧ Rep w g1 u.val q.val) → en'.size = es'.length →
     (Instr.mapUpdate t (.map (some (g1.loc id))) kv (a.eval x)).run P w = .ok () (setB w (g1.loc id) (.map en' clock')) → es' = mput kv (frz s x).1 clock es → clock' = mclk kv es clock → o.wp P a w (Aft N H w0 g0 o K) Q := by
   intro en' clock' es' h1 h2 h3 h4 h5
   subst h4; subst h5
   unfold Oper.wp
   have hrun : (execOp a.eval o).run P w = .ok .skip (setB w (g1.loc id) (.map en' (mclk kv es clock))) := by
     rcases ho with ho | ho <;> simp only [execOp, ho, Sem.run_bind, hmv, hkv, h3, Result.andThen_ok] <;> rfl
   rw [hrun]
   have r2 := r1.setMap (clock' := mclk kv es clock) hob h2 h1
   simp only [Oper.upon]
   refine ⟨.any, _, _, g1, hK, ?_, by rw [size_put]; exact hN⟩
   cases ho' : o.dst with
   | none => exact r2
   | some d => exact r2.put_rep (by rw [hN]; exact hd d ho') (.any _)
 rcases find_both (w := w) (g := g1) hkk es en.toList 0 (by simpa using hsz) (fun j u hu => by rw [Array.getElem?_toList]; exact hen j u hu) hks with ⟨q1, q2⟩ | ⟨j, u, q, q1, q2, q3, q4, q5, q6, q7⟩
 · refine fin (en.push { key := kv, val := a.eval x, born := clock }) (clock + 1) (es ++ [⟨kv, (frz s x).1, clock⟩]) (fun j u hu => ?_) (by simp [hsz]) ?_ (mput_miss q2).symm (by simp [mclk, q2])
   · rcases zMa j es.length with hj | hj
     · rw [zOa hj] at hu
       obtain ⟨q, e1, e2⟩ := hen j u hu
       refine ⟨q, ?_, e2⟩
       rw [Array.getElem?_push_lt (by omega)]
       rw [Array.getElem?_eq_getElem (by omega)] at e1
       exact e1
     · rw [zNa hj] at hu
       have hj0 : j = es.length := by
         rcases zMa j (es.length + 1) with h | h
         · omega
         · rw [zJa (by simp; omega)] at hu; cases hu
       subst hj0
       simp only [Nat.sub_self, zKa, Option.some.injEq] at hu
       subst hu
       exact ⟨{ key := kv, val := a.eval x, born := clock }, by rw [← hsz]; simp, rfl, rfl, plain_key hkk, p1⟩
   · have hf' : (Instr.findKey kt kv en.toList).run P w = .ok none w := MapKept.run_findKey hkd q1
     simp only [Instr.mapUpdate, Sem.run_bind, run_underlying hu, Result.andThen, MapKept.run_getObj_map hw, MapKept.run_checkKey hkd hkk, hf', MapKept.run_setObj_map _ hw]
 · have hju : j < es.length := by
     rcases zMa j es.length with h | h
     · exact h
     · rw [zJa h] at q3; cases q3
   have hkq : keyEq kv u.key = true := (keyEq_iff hkk (hks _ (zQb q3))).2 q5
   obtain ⟨q', e1, e2, e3, e4, e5⟩ := hen j u q3
   have hqe : q = q' := by rw [Array.getElem?_toList, e1] at q4; cases q4; rfl
   subst hqe
   refine fin (en.modify j fun e => { e with key := kv, val := a.eval x }) clock (es.set j ⟨kv, (frz s x).1, u.born⟩) (fun i v hv => ?_) (by simp [hsz]) ?_ (mput_hit q3 hkq q7).symm (by simp [mclk, q2])
   · rw [List.getElem?_set] at hv
     split at hv
     · rename_i hij
       subst hij
       simp only [hju, if_true, Option.some.injEq] at hv
       subst hv
       refine ⟨{ q with key := kv, val := a.eval x }, ?_, rfl, e3, plain_key hkk, p1⟩
       rw [Array.getElem?_modify, if_pos rfl, e1]; rfl
     · rename_i hij
       obtain ⟨y, y1, y2⟩ := hen i v hv
       refine ⟨y, ?_, y2⟩
       rw [Array.getElem?_modify, if_neg hij]; exact y1
   · have hf' : (Instr.findKey kt kv en.toList).run P w = .ok (some (j, q.val)) w := MapKept.run_findKey hkd (by rw [q1]; simp)
     have hkey : ((en[j]?.map (·.key)).getD kv) = kv := by rw [e1]; simp [q6]
     simp only [Instr.mapUpdate, Sem.run_bind, run_underlying hu, Result.andThen, MapKept.run_getObj_map hw, MapKept.run_checkKey hkd hkk, hf', hkey, MapKept.run_keyThatStays hkk, MapKept.run_setObj_map _ hw]
theorem eval_mp (r : R H w0 g0 s h g a w) {m : Operand} {id : Nat} (he : ev s m = .mp id) : a.eval m = .map (some (g.loc id)) := by
 have hm := r.eval m
 rw [he] at hm
 have hm' : Rep w g (.mp id) (a.eval m) := hm
 generalize a.eval m = v at hm'
 cases hm'; rfl
theorem sound_delete {N : Nat} {ts : Array TypeId} {os : Array Operand} {m k : Operand} {t : TypeId} {tl : List TypeId} (ho : o.op = .call { callee := .builtin .delete, args := os, argTypes := ts }) (hos : os.toList = [m, k]) (hts : ts.toList = t :: tl)
   (r : R H w0 g0 s h g a w) (hN : a.tmps.size = N) (hd : ∀ d, o.dst = some d → d < N)
   (hK : awpDelete P t (ev s m) (ev s k) h fun h' => K (.tup []) s h') : o.wp P a w (Aft N H w0 g0 o K) Q := by
 obtain ⟨kt, et, d, kv, hu, hkd, hek, hkk, hK⟩ := withKey_spec hK
 obtain ⟨id, es, clock, hem, hob, hks, hK⟩ := withObj_spec hK
 have hk := r.eval k
 rw [hek] at hk
 have hkv : a.eval k = kv := (rep_v hk).1
 have hmv := eval_mp r hem
 obtain ⟨hid, h0, en, hw, hsz, hen⟩ := map_obj r hob
 have hA : os.map a.eval = #[a.eval m, a.eval k] := by
   apply Array.ext'; simp [hos]
 have hT' : ts[0]? = some t := by rw [← Array.getElem?_toList, hts]; rfl
 have fin : ∀ (en' : Array MapEntry) (es' : List Ent), (∀ (j : Nat) (u : Ent), es'[j]? = some u → ∃ q, en'[j]? = some q ∧ q.key = u.key ∧ q.born = u.born ∧ plain u.key = true ∧ Rep w g u.val q.val) → en'.size = es'.length →
     (Builtin.delete_ ts o.type #[a.eval m, a.eval k]).run P w = .ok (.tuple #[]) (setB w (g.loc id) (.map en' clock)) → es' = mdel kv es → o.wp P a w (Aft N H w0 g0 o K) Q := by
   intro en' es' h1 h2 h3 h4
   subst h4
   have r2 := r.setMap (clock' := clock) hob h2 h1
   refine aft_world (x := .tup []) (v := .tuple #[]) r2 hN hd (by simp [execOp, ho, resolve, invoke, builtin, hA, h3]) (show Rep _ _ _ _ from .tup rfl fun j u hu => by simp at hu) (fun b hb => by cases hb) hK
 rcases find_both (w := w) (g := g) hkk es en.toList 0 (by simpa using hsz) (fun j u hu => by rw [Array.getElem?_toList]; exact hen j u hu) hks with ⟨q1, q2⟩ | ⟨j, u, q, q1, q2, q3, q4, q5, q6, q7⟩
 · refine fin en es hen hsz ?_ (mdel_miss q2).symm
   have hf' : (Instr.findKey kt kv en.toList).run P w = .ok none w := MapKept.run_findKey hkd q1
   simp [Builtin.delete_, hT', hmv, hkv, run_underlying hu, MapKept.run_getObj_map hw, MapKept.run_checkKey hkd hkk, hf', MapKept.run_setObj_map _ hw, Result.andThen]
 · have hju : j < es.length := by
     rcases zMa j es.length with h | h
     · exact h
     · rw [zJa h] at q3; cases q3
   have hkq : keyEq kv u.key = true := (keyEq_iff hkk (hks _ (zQb q3))).2 q5
   have he : en.eraseIdxIfInBounds j = en.eraseIdx j (by omega) := by
     simp [Array.eraseIdxIfInBounds, show j < en.size by omega]
   refine fin (en.eraseIdxIfInBounds j) (es.eraseIdx j) (fun i v hv => ?_) ?_ ?_ (mdel_hit q3 hkq q7).symm
   · rw [he]
     rw [List.getElem?_eraseIdx] at hv
     simp only [Array.getElem?_eraseIdx]
     split at hv
     · rename_i hlt; rw [if_pos hlt]; exact hen i v hv
     · rename_i hlt; rw [if_neg hlt]; exact hen (i + 1) v hv
   · rw [he]; simp [hsz, List.length_eraseIdx, hju]
   · have hf' : (Instr.findKey kt kv en.toList).run P w = .ok (some (j, q.val)) w := MapKept.run_findKey hkd (by rw [q1]; simp)
     simp [Builtin.delete_, hT', hmv, hkv, run_underlying hu, MapKept.run_getObj_map hw, MapKept.run_checkKey hkd hkk, hf', MapKept.run_setObj_map _ hw, Result.andThen]
theorem mapT_spec {t : TypeId} (h : mapT P t = true) : ∃ k e, P.underlying t = some (.map k e) := by
 unfold mapT at h
 split at h
 · exact ⟨_, _, by assumption⟩
 · cases h
theorem sound_clear {N : Nat} {ts : Array TypeId} {os : Array Operand} {m : Operand} {t : TypeId} (ho : o.op = .call { callee := .builtin .clear, args := os, argTypes := ts }) (hos : os.toList = [m]) (hts : ts.toList = [t])
   (r : R H w0 g0 s h g a w) (hN : a.tmps.size = N) (hd : ∀ d, o.dst = some d → d < N)
   (hK : awpClear P t (ev s m) h fun h' => K (.tup []) s h') : o.wp P a w (Aft N H w0 g0 o K) Q := by
 obtain ⟨hmt, hK⟩ := hK
 obtain ⟨kt, et, hu⟩ := mapT_spec hmt
 obtain ⟨id, es, clock, hem, hob, hK⟩ := withObj_spec hK
 have hmv := eval_mp r hem
 obtain ⟨hid, h0, en, hw, hsz, hen⟩ := map_obj r hob
 have hA : os.map a.eval = #[a.eval m] := by
   apply Array.ext'; simp [hos]
 have hT' : ts[0]? = some t := by rw [← Array.getElem?_toList, hts]; rfl
 have r2 := r.setMap (es' := []) (en' := #[]) (clock' := clock) hob rfl (fun j u hu => by simp at hu)
 refine aft_world (x := .tup []) (v := .tuple #[]) r2 hN hd ?_ (show Rep _ _ _ _ from .tup rfl fun j u hu => by simp at hu) (fun b hb => by cases hb) hK
 simp [execOp, ho, resolve, invoke, builtin, hA, Builtin.clear_, hT', hmv, run_underlying hu, MapKept.run_getObj_map hw, MapKept.run_setObj_map _ hw, Result.andThen]
theorem run_zeroOf {e : TypeId} {z : Value} (hz : (P.info? e).bind (·.zero) = some z) : (zeroValue e).run P w = .ok z w := by
 cases hi : P.info? e with
 | none => rw [hi] at hz; cases hz
 | some i =>
   rw [hi] at hz
   have : i.zero = some z := hz
   simp [zeroValue, typeInfo, hi, this]
theorem plain_cells {z : Value} (h : plain z = true ∨ ∃ zs, z = .agg zs ∧ zs.all plain = true) : ∀ j, j < z.cells.size → (z.cells[j]!).oneCell' = true := by
 intro j hj
 rcases h with h | ⟨zs, rfl, h⟩
 · have hc : z.cells = #[z] := by cases z <;> first | rfl | simp [plain] at h
   rw [hc] at hj ⊢
   have : j = 0 := by simpa using hj
   subst this
   exact plain_oneCell h
 · have hj' : j < zs.size := hj
   have := Array.all_eq_true.1 h j hj'
   simp only [Value.cells]
   rw [getElem!_pos zs j hj']
   exact plain_oneCell this
theorem sound_clearX {N : Nat} {ts : Array TypeId} {os : Array Operand} {m : Operand} {t : TypeId} (ho : o.op = .call { callee := .builtin .clear, args := os, argTypes := ts }) (hos : os.toList = [m]) (hts : ts.toList = [t])
   (r : R H w0 g0 s h g a w) (hN : a.tmps.size = N) (hd : ∀ d, o.dst = some d → d < N)
   (hK : awpClearX P t (ev s m) h fun h' => K (.tup []) s h') : o.wp P a w (Aft N H w0 g0 o K) Q := by
 have hA : os.map a.eval = #[a.eval m] := by
   apply Array.ext'; simp [hos]
 have hT' : ts[0]? = some t := by rw [← Array.getElem?_toList, hts]; rfl
 have hev := r.eval m
 unfold awpClearX at hK
 split at hK
 · rename_i id off n c hm
   rw [hm] at hev
   have hev' : Rep w g (.osl id off n c) (a.eval m) := hev
   unfold awpClearS at hK
   split at hK
   · rename_i e hu
     split at hK
     · rename_i z e' mm cs hz hob
       obtain ⟨hp, hfit, hK⟩ := hK
       generalize hv : a.eval m = v at hev'
       cases hev' with
       | osl _ _ _ _ hid hc hcm =>
       by_cases hn : n = 0
       · subst hn
         have e1 : h.set id (.row e' mm (putCells cs off (List.replicate (0 * z.cells.size) .any))) = h := by
           have : putCells cs off (List.replicate (0 * z.cells.size) .any) = cs := by simp [putCells]
           rw [this]
           have hlt : id < h.length := by rw [r.heap.n]; exact hid
           rw [zLa hlt] at hob
           have hob' : h[id] = .row e' mm cs := Option.some.inj hob
           rw [← hob']; exact List.set_getElem_self hlt
         rw [e1] at hK
         refine aft_world (x := .tup []) (v := .tuple #[]) r hN hd ?_ (show Rep _ _ _ _ from .tup rfl fun j u hu => by simp at hu) (fun b hb => by cases hb) hK
         simp [execOp, ho, resolve, invoke, builtin, hA, Builtin.clear_, hT', hv, run_underlying hu, Result.andThen]
       · have hrow : RowE w g e' mm cs (g.loc id) := r.heap.obj id _ hob
         have hzl : (Builtin.zeroCells z.cells n).toList.length = n * z.cells.size := by simp [Builtin.zeroCells]
         obtain ⟨cur', c1, c2, c3⟩ := row_putE (P := P) (b := g.loc id) (off := off) (xs := List.replicate (n * z.cells.size) .any) (us := (Builtin.zeroCells z.cells n).toList) hrow (by rw [hzl]; simp)
           (fun u hu => by
             simp only [Builtin.zeroCells, Array.toList_map, List.mem_map] at hu
             obtain ⟨j, hj, rfl⟩ := hu
             have hj' : j < n * z.cells.size := by simpa using hj
             have hs : 0 < z.cells.size := by
               rcases Nat.eq_zero_or_pos z.cells.size with h0 | h0
               · rw [h0] at hj'; omega
               · exact h0
             exact plain_cells hp _ (Nat.mod_lt _ hs))
           (fun j u hu => by
             have := zQb hu
             rw [List.mem_replicate] at this
             rw [this.2]; exact .any _) (by simpa using hfit)
         have r2 := r.setObj hob c3 (fun k hk => setRow_other w _ k cur' hk) (by simp [World.setRow]) ⟨rfl, rfl, rfl⟩ (show ObjRep _ _ (.row _ _ _) _ from c2)
         refine aft_world (x := .tup []) (v := .tuple #[]) r2 hN hd ?_ (show Rep _ _ _ _ from .tup rfl fun j u hu => by simp at hu) (fun b hb => by cases hb) hK
         obtain ⟨n', rfl⟩ : ∃ n', n = n' + 1 := ⟨n - 1, by omega⟩
         simp [execOp, ho, resolve, invoke, builtin, hA, Builtin.clear_, hT', hv, run_underlying hu, run_zeroOf hz, c1, Result.andThen]
     · exact hK.elim
   · exact hK.elim
 · rename_i sz hm
   rw [hm] at hev
   have hev' : Rep w g (.sl sz []) (a.eval m) := hev
   obtain ⟨⟨e, hu⟩, hK⟩ := hK
   refine aft_world (x := .tup []) (v := .tuple #[]) r hN hd ?_ (show Rep _ _ _ _ from .tup rfl fun j u hu => by simp at hu) (fun b hb => by cases hb) hK
   generalize hv : a.eval m = v at hev'
   generalize hxs : ([] : List AV) = xs at hev'
   cases hev' with
   | nil => simp [execOp, ho, resolve, invoke, builtin, hA, Builtin.clear_, hT', hv, run_underlying hu, Result.andThen]
   | empty => simp [execOp, ho, resolve, invoke, builtin, hA, Builtin.clear_, hT', hv, run_underlying hu, Result.andThen]
   | sl => subst hxs; simp [execOp, ho, resolve, invoke, builtin, hA, Builtin.clear_, hT', hv, run_underlying hu, Result.andThen]
 · exact sound_clear ho hos hts r hN hd hK
theorem sound_range {N : Nat} {t : TypeId} {m : Operand} (ho : o.op = .range t m) (r : R H w0 g0 s h g a w) (hN : a.tmps.size = N) (hd : ∀ d, o.dst = some d → d < N)
   (hK : awpRange P t (ev s m) h fun v => K v s h) : o.wp P a w (Aft N H w0 g0 o K) Q := by
 obtain ⟨hmt, hK⟩ := hK
 obtain ⟨kt, et, hu⟩ := mapT_spec hmt
 obtain ⟨id, es, clock, hem, hob, hK⟩ := withObj_spec hK
 have hmv := eval_mp r hem
 obtain ⟨hid, h0, en, hw, hsz, hen⟩ := map_obj r hob
 have r2 := r.alloc (.mapIter (some (g.loc id)) clock #[] clock)
 have hnew := r.sep_new
 refine aft_world (x := .iter id clock [] clock) r2 hN hd (v := .pointer (some ⟨w.heap.size, 0, none⟩)) ?_ ⟨w.heap.size, rfl, r.frame.size, heap_alloc_new w _, r.fresh _ (zVa _), hid, zVa _⟩ (fun b hb => ?_) hK
 · simp only [execOp, ho, Instr.range, Sem.run_bind, run_underlying hu, hmv, Result.andThen_ok, MapKept.run_getObj_map hw, Sem.run_pure, newObj]
   rfl
 · simp only [privB, Option.some.injEq] at hb
   subst hb
   exact hnew
theorem R.setIter (r : R H w0 g0 s h g a w) {t b id since c0 c1 : Nat} {seen seen' : List Nat} (hs : s t = .iter id since seen c0) (hv : tmOf a t = .pointer (some ⟨b, 0, none⟩)) (hc : since ≤ c1) :
   R H w0 g0 (Vm.set s t (.iter id since seen' c1)) h g a (setB w b (.mapIter (some (g.loc id)) since seen'.toArray c1)) := by
 have hsl := r.slots t
 rw [hs] at hsl
 obtain ⟨b', hb', hB, hw, h0, hid, -⟩ := hsl
 have hbb : b' = b := by
   have hv' : a.tmps.getD t undef = .pointer (some ⟨b, 0, none⟩) := hv
   rw [hv'] at hb'; simpa using hb'.symm
 subst hbb
 have hlt := lt_of_heap hw
 have hb : privB (s t) (tmOf a t) = some b' := by rw [hs, hv]; rfl
 have hk := keeps_setB (w := w) (g := g) b' (.mapIter (some (g.loc id)) since seen'.toArray c1) h0
 have hpr : ∀ i, privB (Vm.set s t (.iter id since seen' c1) i) (tmOf a i) = privB (s i) (tmOf a i) := fun i => by
   unfold Vm.set
   split
   · rename_i e; subst e; rw [hs, hv]; rfl
   · rfl
 have hoth : ∀ i b2, i ≠ t → privB (s i) (tmOf a i) = some b2 → b2 ≠ b' := fun i b2 hi hb2 e => hi (r.apart i t b2 hb2 (e ▸ hb))
 have hsz : (setB w b' (.mapIter (some (g.loc id)) since seen'.toArray c1)).heap.size = w.heap.size := by simp [setB]
 refine ⟨r.defers, fun i => ?_, fun i j b2 hi hj => r.apart i j b2 ((hpr i).symm.trans hi) ((hpr j).symm.trans hj), fun i b2 hi => r.sep i b2 ((hpr i).symm.trans hi), ?_, ?_, r.n0, r.loc0, r.old, r.loc1, fun b2 hb2 => r.fresh b2 (by rw [hsz] at hb2; exact hb2), fun i cs hi => (r.laid i cs hi).keep hk, r.kept.trans hk⟩
 · by_cases hi : i = t
   · subst hi
     simp only [Vm.set, if_true]
     exact ⟨b', hv, hB, by simp [setB, hlt], h0, hid, hc⟩
   · simp only [Vm.set, hi, if_false]
     exact (r.slots i).keepAt hk fun b2 hb2 => ⟨setB_other w b' _ b2 (hoth i b2 hi hb2), rfl⟩
 · exact ⟨r.heap.n, fun i hi => by rw [hsz]; exact r.heap.lt i hi, r.heap.inj, fun i o' ho => (r.heap.obj i o' ho).keepAt hk ⟨setB_other w b' _ _ (r.sep t b' hb i (heap_lt r ho)), rfl⟩⟩
 · exact ⟨r.frame.os, r.frame.tape, r.frame.output, by rw [hsz]; exact r.frame.size, fun k' hk' hno => by rw [setB_other w b' _ k' (by omega)]; exact r.frame.block k' hk' hno⟩
theorem leftE_mem {es : List Ent} {en : Array MapEntry} {seen : List Nat} (hsz : en.size = es.length)
   (hen : ∀ (j : Nat) (u : Ent), es[j]? = some u → ∃ q, en[j]? = some q ∧ q.key = u.key ∧ q.born = u.born ∧ plain u.key = true ∧ Rep w g u.val q.val) {q : MapEntry} (hq : q ∈ (leftOf en seen.toArray).toList) :
   ∃ u ∈ leftE es seen, q.key = u.key ∧ q.born = u.born ∧ plain u.key = true ∧ Rep w g u.val q.val := by
 simp only [leftOf, Array.toList_filter, List.mem_filter] at hq
 obtain ⟨hq1, hq2⟩ := hq
 obtain ⟨j, hj⟩ := zPb.1 hq1
 have hjlt : j < es.length := by
   rcases zMa j en.size with h' | h'
   · omega
   · rw [zJa (by simpa using h')] at hj; cases hj
 obtain ⟨q', q1, q2, q3, q4, q5⟩ := hen j _ (zLa hjlt)
 rw [Array.getElem?_toList, q1] at hj
 cases hj
 refine ⟨es[j], ?_, q2, q3, q4, q5⟩
 simp only [leftE, List.mem_filter]
 refine ⟨zWa hjlt, ?_⟩
 rw [← q3]
 simpa using hq2
theorem leftE_none {es : List Ent} {en : Array MapEntry} {seen : List Nat} (hsz : en.size = es.length)
   (hen : ∀ (j : Nat) (u : Ent), es[j]? = some u → ∃ q, en[j]? = some q ∧ q.key = u.key ∧ q.born = u.born ∧ plain u.key = true ∧ Rep w g u.val q.val) (h0 : (leftOf en seen.toArray).size = 0) : leftE es seen = [] := by
 rw [leftE, List.filter_eq_nil_iff]
 intro u hu hc
 obtain ⟨j, hj⟩ := zPb.1 hu
 obtain ⟨q', q1, q2, q3, q4, q5⟩ := hen j u hj
 have : q' ∈ (leftOf en seen.toArray).toList := by
   simp only [leftOf, Array.toList_filter, List.mem_filter]
   refine ⟨?_, by rw [q3]; simpa using hc⟩
   rw [Array.mem_toList_iff]; exact Array.mem_of_getElem? q1
 have hl : (leftOf en seen.toArray).toList.length = 0 := by simpa using h0
 rw [zRa hl] at this
 cases this
theorem sound_next {N : Nat} {it : Operand} (ho : o.op = .next it false) (r : R H w0 g0 s h g a w) (hN : a.tmps.size = N) (hd : ∀ d, o.dst = some d → d < N)
   (hK : awpNext (ev s it) s (tmpOf it) h fun v s' => K v s' h) : o.wp P a w (Aft N H w0 g0 o K) Q := by
 have hit := r.eval it
 have hpt := r.slots (tmpOf it)
 unfold awpNext at hK
 split at hK
 · rename_i id since seen c0 he
   have hst : s (tmpOf it) = .iter id since seen c0 ∧ a.eval it = tmOf a (tmpOf it) := by
     cases it with
     | tmp t => exact ⟨he, rfl⟩
     | const v => have := shared_cst v; simp only [ev] at he; rw [he] at this; cases this
     | global n =>
       simp only [ev] at he
       split at he <;> cases he
     | func f => simp only [ev] at he; cases he
   split at hK
   · rename_i es clock hob
     obtain ⟨⟨hnew, hclk⟩, hK0, hK1⟩ := hK
     rw [he] at hit
     obtain ⟨b, hv, hB, hw, h0, hid, hsc⟩ := hit
     obtain ⟨-, hp0, en, hm, hsz, hen⟩ := map_obj r hob
     have hold : ∀ x ∈ en.toList, x.born < since := fun x hx => by
       obtain ⟨j, hj⟩ := zPb.1 hx
       have hjlt : j < es.length := by
         rcases zMa j en.size with h' | h'
         · omega
         · rw [zJa (by simpa using h')] at hj; cases hj
       obtain ⟨q, q1, q2, q3, -⟩ := hen j _ (zLa hjlt)
       rw [Array.getElem?_toList, q1] at hj
       cases hj
       rw [q3]; exact hnew _ (zWa hjlt)
     rcases run_next_at (P := P) w o.type b (g.loc id) since c0 seen.toArray en clock hw hm hold hsc with ⟨e0, hrun⟩ | ⟨q, hq, w1, hw1, hrun⟩
     · refine aft_rep r hN hd (by simp only [execOp, ho, hv, Sem.run_bind, hrun, Result.andThen_ok]; rfl) (.tup rfl fun j u hu => ?_) (hK0 (leftE_none hsz hen e0))
       match j with
       | 0 => simp at hu; subst hu; exact .v rfl
       | j + 1 => simp at hu
     · obtain ⟨u, hu, u1, u2, u3, u4⟩ := leftE_mem hsz hen hq
       have hv' : tmOf a (tmpOf it) = .pointer (some ⟨b, 0, none⟩) := by rw [← hst.2]; exact hv
       have fin : ∀ w1 : World, R H w0 g0 s h g a w1 → Rep w1 g u.val q.val → (execOp a.eval o).run P w = .ok (.value (.tuple #[.bool true, q.key, q.val])) (setB w1 b (.mapIter (some (g.loc id)) since (seen ++ [u.born]).toArray clock)) → o.wp P a w (Aft N H w0 g0 o K) Q := by
         intro w1 r1 hr1 hrun
         have r2 := r1.setIter (seen' := seen ++ [u.born]) (c1 := clock) hst.1 hv' hclk
         refine aft_world (x := .tup [.v (.bool true), .v u.key, u.val]) r2 hN hd hrun (show Rep _ _ _ _ from .tup rfl fun j y hy => ?_) (fun b hb => by cases hb) (hK1 u hu)
         match j with
         | 0 => simp at hy; subst hy; exact .v rfl
         | 1 => simp at hy; subst hy; rw [show (#[Value.bool true, q.key, q.val].getD 1 undef) = q.key from rfl, u1]; exact .v u3
         | 2 => simp at hy; subst hy; exact hr1.keep (keeps_setB (g := g) b _ h0)
         | j + 3 => simp at hy
       have hseen : (seen ++ [u.born]).toArray = seen.toArray.push q.born := by rw [u2]; simp
       rcases hw1 with rfl | rfl
       · refine fin w1 r u4 ?_
         simp only [execOp, ho, hv, Sem.run_bind, hrun, Result.andThen_ok, hseen]; rfl
       · refine fin w.drew r.drew (u4.keep (keeps_drew w g)) ?_
         simp only [execOp, ho, hv, Sem.run_bind, hrun, Result.andThen_ok, hseen]; rfl
   · exact hK.elim
 · exact hK.elim
theorem find_index {es : List Ent} {en : List MapEntry} (b : Nat) : en.length = es.length →
   (∀ (j : Nat) (u : Ent), es[j]? = some u → ∃ q, en[j]? = some q ∧ q.key = u.key ∧ q.born = u.born ∧ plain u.key = true ∧ Rep w g u.val q.val) → ∀ {e : Ent}, es.find? (fun e => e.born == b) = some e →
   ∃ q, en.find? (fun e => e.born == b) = some q ∧ q.key = e.key ∧ plain e.key = true ∧ Rep w g e.val q.val := by
 induction es generalizing en with
 | nil => intro _ _ e he; cases he
 | cons e0 es ih =>
   intro hl hen e he
   cases en with
   | nil => simp at hl
   | cons q0 en =>
     obtain ⟨q, h1, h2, h3, h4, h5⟩ := hen 0 e0 rfl
     simp only [zKa, Option.some.injEq] at h1
     subst h1
     simp only [List.find?_cons] at he ⊢
     rw [h3]
     split at he
     · rename_i hb
       simp only [Option.some.injEq] at he
       subst he
       exact ⟨q0, rfl, h2, h4, h5⟩
     · rename_i hb
       exact ih (by simpa using hl) (fun j u hu => hen (j + 1) u (by simpa using hu)) he
theorem sound_entry {N : Nat} {it : Operand} (ho : o.op = .entry it) (r : R H w0 g0 s h g a w) (hN : a.tmps.size = N) (hd : ∀ d, o.dst = some d → d < N)
   (hK : awpEntry (ev s it) h fun v => K v s h) : o.wp P a w (Aft N H w0 g0 o K) Q := by
 have hit := r.eval it
 unfold awpEntry at hK
 split at hK
 · rename_i id since seen c0 he
   split at hK
   · rename_i es clock b0 hob hlast
     obtain ⟨rfl, ⟨e, hf⟩, hK⟩ := hK
     rw [he] at hit
     obtain ⟨b, hv, hB, hw, h0, hid, hsc⟩ := hit
     obtain ⟨-, hp0, en, hm, hsz, hen⟩ := map_obj r hob
     obtain ⟨q, f1, f2, f3, f4⟩ := find_index (w := w) (g := g) b0 (by rw [Array.length_toList]; exact hsz) (fun j u hu => by rw [Array.getElem?_toList]; exact hen j u hu) hf
     have hfe : en.find? (fun x => x.born == b0) = some q := by rw [← Array.find?_toList]; exact f1
     have hback : seen.toArray.back? = some b0 := by rw [List.back?_toArray]; exact hlast
     refine aft_rep r hN hd (v := .tuple #[q.key, q.val]) ?_ (.tup rfl fun j y hy => ?_) (hK e hf)
     · have hrun : (Instr.entry (.pointer (some ⟨b, 0, none⟩))).run P w = .ok (.tuple #[q.key, q.val]) w := by
         simp only [Instr.entry, getObj, Sem.run_bind, Sem.run, hw, hm, Result.andThen, hback, bne_self_eq_false, zOb, if_false, hfe]
         rfl
       simp only [execOp, ho, hv, Sem.run_bind, hrun, Result.andThen_ok]; rfl
     · match j with
       | 0 => simp at hy; subst hy; rw [show (#[q.key, q.val].getD 0 undef) = q.key from rfl, f2]; exact .v f3
       | 1 => simp at hy; subst hy; exact f4
       | j + 2 => simp at hy
   · exact hK.elim
 · exact hK.elim
theorem fieldsAt_spec {t : TypeId} {places : List (Nat × Nat)} (hf : fieldsAt P t = some places) : (∃ fs, P.underlying t = some (.struct fs) ∧ fs.toList.mapM (fun f => (P.info? f.type).map fun i => (f.offset, i.size)) = some places) ∨
   ∃ len e i, P.underlying t = some (.array len e) ∧ P.info? e = some i ∧ places = (zIb len).map fun j => (j * i.size, i.size) := by
 unfold fieldsAt at hf
 split at hf
 · rename_i fs hu; exact .inl ⟨fs, hu, hf⟩
 · rename_i len e hu
   cases hi : P.info? e with
   | none => rw [hi] at hf; cases hf
   | some i => rw [hi] at hf; cases hf; exact .inr ⟨len, e, i, hu, hi, rfl⟩
 · cases hf
def CellsRep (w : World) (g : Gh) (cs : List AV) (vs : Array Value) : Prop :=
 vs.size = cs.length ∧ (∀ j, j < vs.size → (vs.getD j undef).oneCell' = true) ∧ ∀ j u, cs[j]? = some u → Rep w g u (vs.getD j undef)
theorem putFold (news : Array Value) (off : Nat) : ∀ (cs : Array Value), off + news.size ≤ cs.size →
   (news.zipIdx.foldl (fun cs (c, j) => cs.setIfInBounds (off + j) c) cs).toList = cs.toList.take off ++ news.toList ++ cs.toList.drop (off + news.size) := by
 intro cs hl
 have key : ∀ (l : List Value) (k : Nat) (cs : Array Value), off + k + l.length ≤ cs.size →
     ((l.zipIdx k).foldl (fun cs (x : Value × Nat) => cs.setIfInBounds (off + x.2) x.1) cs).toList = cs.toList.take (off + k) ++ l ++ cs.toList.drop (off + k + l.length) := by
   intro l
   induction l with
   | nil => intro k cs _; simp
   | cons y l ih =>
     intro k cs hk
     simp only [zLb] at hk
     simp only [List.zipIdx_cons, List.foldl_cons]
     rw [ih (k + 1) _ (by simp; omega)]
     have e1 : (cs.setIfInBounds (off + k) y).toList = cs.toList.take (off + k) ++ y :: cs.toList.drop (off + k + 1) := by
       rw [Array.toList_setIfInBounds, List.set_eq_take_append_cons_drop]
       rw [if_pos (by simp; omega)]
     rw [e1]
     have hlt : (cs.toList.take (off + k)).length = off + k := by simp; omega
     have hD : cs.toList.drop (off + k + 1 + l.length) = (cs.toList.drop (off + k + 1)).drop l.length := by rw [List.drop_drop]
     rw [zLb, show off + k + (l.length + 1) = off + k + 1 + l.length by omega, hD]
     generalize cs.toList.take (off + k) = A at hlt
     generalize cs.toList.drop (off + k + 1) = D
     have h1 : (A ++ y :: D).take (off + (k + 1)) = A ++ [y] := by
       rw [List.take_append, hlt, List.take_of_length_le (by omega), show off + (k + 1) - (off + k) = 1 by omega]; simp
     have h2 : (A ++ y :: D).drop (off + (k + 1) + l.length) = D.drop l.length := by
       rw [List.drop_append, hlt, zNb (by omega), show off + (k + 1) + l.length - (off + k) = l.length + 1 by omega]; simp
     rw [h1, h2]; simp
 have := key news.toList 0 cs (by simpa using hl)
 rw [← Array.foldl_toList, Array.toList_zipIdx]
 simpa using this
theorem fillA_rep {places : List (Nat × Nat)} {place : Nat → Option (Nat × Nat)} (hpl : ∀ i p, places[i]? = some p → place i = some p) : ∀ (ps : List (Nat × AV)) (vs : List Value) {cs cs' : List AV} {cv : Array Value}, ps.length = vs.length → (∀ j u, (ps.map (·.2))[j]? = some u → Rep w g u (vs.getD j undef)) →
   CellsRep w g cs cv → fillA places cs ps = some cs' → ∃ cv', Instr.fill place cv ((ps.map (·.1)).zip vs) = some cv' ∧ CellsRep w g cs' cv'
 | [], [], cs, cs', cv, _, _, hc, hf => by simp only [fillA, Option.some.injEq] at hf; subst hf; exact ⟨cv, rfl, hc⟩
 | [], _ :: _, _, _, _, h, _, _, _ => by simp at h
 | _ :: _, [], _, _, _, h, _, _, _ => by simp at h
 | (i, x) :: ps, v :: vs, cs, cs', cv, hl, hrep, hc, hf => by
   unfold fillA at hf
   split at hf
   · cases hf
   · rename_i off n hp
     split at hf
     · rename_i hcond
       simp only [zTa, beq_iff_eq, decide_eq_true_eq] at hcond
       obtain ⟨⟨hs, hn⟩, hle⟩ := hcond
       have hx : Rep w g x v := by simpa using hrep 0 x rfl
       obtain ⟨q1, q2, q3⟩ := solid_rep hs hx
       have hsz : v.cells.size = n := by omega
       have hlc : (v.cells.zipIdx.foldl (fun cs (c, j) => cs.setIfInBounds (off + j) c) cv).toList = cv.toList.take off ++ v.cells.toList ++ cv.toList.drop (off + v.cells.size) := putFold _ _ _ (by rw [hc.1]; omega)
       have hc2 : CellsRep w g (cs.take off ++ x.cells ++ cs.drop (off + n)) (v.cells.zipIdx.foldl (fun cs (c, j) => cs.setIfInBounds (off + j) c) cv) := by
         have hget : ∀ j, (v.cells.zipIdx.foldl (fun cs (c, j) => cs.setIfInBounds (off + j) c) cv).getD j undef = (cv.toList.take off ++ v.cells.toList ++ cv.toList.drop (off + v.cells.size)).getD j undef := fun j => by
           rw [← hlc]; simp [Array.getD_eq_getD_getElem?, zIa]
         have hszl : (v.cells.zipIdx.foldl (fun cs (c, j) => cs.setIfInBounds (off + j) c) cv).size = cv.size := by
           rw [← Array.length_toList, hlc]; simp; have := hc.1; omega
         have hcl := hc.1
         refine ⟨?_, fun j hj => ?_, fun j u hu => ?_⟩
         · rw [hszl]; simp; omega
         · rw [hget]
           rw [hszl] at hj
           rcases zMa j off with h1 | h1
           · have := hc.2.1 j hj
             rw [zIa, zJb, zOa (by simp; omega), zSa, if_pos h1, Array.getElem?_toList]
             simpa [Array.getD_eq_getD_getElem?] using this
           · rcases zMa j (off + n) with h2 | h2
             · rw [zIa, zJb, zNa (by simp; omega), zOa (by simp; omega)]
               have hlt : j - min off cv.toList.length < v.cells.toList.length := by simp; omega
               simp only [List.length_take]
               rw [zLa hlt]
               exact q2 _ (zWa hlt)
             · have := hc.2.1 j hj
               rw [zIa, zNa (by simp; omega), zUa]
               have e : off + v.cells.size + (j - (cv.toList.take off ++ v.cells.toList).length) = j := by simp; omega
               rw [e, Array.getElem?_toList]
               simpa [Array.getD_eq_getD_getElem?] using this
         · rw [hget]
           rcases zMa j off with h1 | h1
           · rw [zJb, zOa (by simp; omega), zSa, if_pos h1] at hu
             have := hc.2.2 j u hu
             rw [zIa, zJb, zOa (by simp; omega), zSa, if_pos h1, Array.getElem?_toList]
             simpa [Array.getD_eq_getD_getElem?] using this
           · rcases zMa j (off + n) with h2 | h2
             · rw [zJb, zNa (by simp; omega), zOa (by simp; omega)] at hu
               have := q3 _ u hu
               rw [zIa, zJb, zNa (by simp; omega), zOa (by simp; omega)]
               have e : j - (List.take off cv.toList).length = j - (List.take off cs).length := by simp; omega
               rw [e]
               simpa [zIa] using this
             · rw [zNa (by simp; omega), zUa] at hu
               have e0 : off + n + (j - (List.take off cs ++ x.cells).length) = j := by simp; omega
               rw [e0] at hu
               have := hc.2.2 j u hu
               rw [zIa, zNa (by simp; omega), zUa]
               have e : off + v.cells.size + (j - (cv.toList.take off ++ v.cells.toList).length) = j := by simp; omega
               rw [e, Array.getElem?_toList]
               simpa [Array.getD_eq_getD_getElem?] using this
       obtain ⟨cv', f1, f2⟩ := fillA_rep hpl ps vs (by simpa using hl) (fun j u hu => by simpa using hrep (j + 1) u (by simpa using hu)) hc2 hf
       refine ⟨cv', ?_, f2⟩
       simp only [List.map_cons, List.zip_cons_cons, Instr.fill]
       have hp' := hpl _ _ hp
       simp only [hp']
       rw [if_neg (by rw [hc.1]; simp only [Bool.or_eq_true, bne_iff_ne, decide_eq_true_eq]; omega)]
       exact f1
     · cases hf
theorem sound_build {N : Nat} {t : TypeId} {parts : Array (Nat × Operand)} (ho : o.op = .build t parts) (r : R H w0 g0 s h g a w) (hN : a.tmps.size = N) (hd : ∀ d, o.dst = some d → d < N)
   (hK : awpBuild P t ((parts.toList.map (·.1)).zip (escs s h (parts.toList.map (·.2))).1) fun v => K v (escs s h (parts.toList.map (·.2))).2.1 (escs s h (parts.toList.map (·.2))).2.2) : o.wp P a w (Aft N H w0 g0 o K) Q := by
 obtain ⟨g1, r1, k1, l1, p1⟩ := R.escs (parts.toList.map (·.2)) r
 unfold awpBuild at hK
 split at hK
 · rename_i places zs hfa hz
   obtain ⟨hpl, hK⟩ := hK
   split at hK
   · rename_i cs hfill
     have hinf : ∃ i, P.info? t = some i ∧ i.zero = some (.agg zs) := by
       cases hi : P.info? t with
       | none => rw [hi] at hz; cases hz
       | some i => rw [hi] at hz; exact ⟨i, rfl, hz⟩
     obtain ⟨i, hi, hiz⟩ := hinf
     have hp : ∀ j (hj : j < zs.size), plain zs[j] = true := fun j hj => Array.all_eq_true.1 hpl j hj
     have hc0 : CellsRep w g1 (zs.toList.map .v) zs := by
       refine ⟨by simp, fun j hj => ?_, fun j u hu => ?_⟩
       · simp only [Array.getD_eq_getD_getElem?, Array.getElem?_eq_getElem hj, zXa]
         exact plain_oneCell (hp j hj)
       · have hj : j < zs.size := by
           rcases zMa j zs.size with h | h
           · exact h
           · simp [Array.getElem?_eq_none h] at hu
         simp only [List.getElem?_map, Array.getElem?_toList, Array.getElem?_eq_getElem hj, Option.map_some, Option.some.injEq] at hu
         subst hu
         simp only [Array.getD_eq_getD_getElem?, Array.getElem?_eq_getElem hj, zXa]
         exact .v (hp j hj)
     have hlp : (escs s h (parts.toList.map (·.2))).1.length = (parts.toList.map (·.1)).length := by simpa using l1
     have hpe : (parts.map fun (p : Nat × Operand) => (p.1, a.eval p.2)).toList = (parts.toList.map (·.1)).zip ((parts.toList.map (·.2)).map a.eval) := by
       rw [Array.toList_map, List.map_map, List.zip_map', ]; rfl
     have fin : ∀ place : Nat → Option (Nat × Nat), (∀ i p, places[i]? = some p → place i = some p) →
         (∀ cv, Instr.fill place zs ((parts.toList.map (·.1)).zip ((parts.toList.map (·.2)).map a.eval)) = some cv → P.built t (parts.map fun (p : Nat × Operand) => (p.1, a.eval p.2)).toList = some cv) → o.wp P a w (Aft N H w0 g0 o K) Q := fun place hpl hb => by
       obtain ⟨cv, f1, f2⟩ := fillA_rep (w := w) (g := g1) hpl ((parts.toList.map (·.1)).zip (escs s h (parts.toList.map (·.2))).1) ((parts.toList.map (·.2)).map a.eval) (by simp [l1])
         (fun j u hu => p1 j u (by rw [List.map_snd_zip (by omega)] at hu; exact hu)) hc0 hfill
       rw [List.map_fst_zip (by omega)] at f1
       have hbuilt := hb cv f1
       refine aft_rep r1 hN hd (v := .agg cv) ?_ (.agg f2.1 f2.2.1 f2.2.2) hK
       simp only [execOp, ho, Sem.run_bind, run_build w t _ cv hbuilt, Result.andThen_ok]
       rfl
     rcases fieldsAt_spec hfa with ⟨fs, hu, hm⟩ | ⟨len, e, ie, hu, hie, hpls⟩
     · refine fin (places.toArray[·]?) (fun i p hp => by simpa using hp) fun cv f1 => ?_
       unfold Program.built
       simp only [hi, hu, hiz, hm, hpe]
       exact f1
     · refine fin (fun i => some (i * ie.size, ie.size)) (fun i p hp => ?_) fun cv f1 => ?_
       · rw [hpls, List.getElem?_map] at hp
         rcases zMa i len with h' | h'
         · rw [List.getElem?_range h'] at hp; exact hp
         · rw [zJa (by simpa using h')] at hp; cases hp
       · unfold Program.built
         simp only [hi, hu, hiz, hie, hpe]
         exact f1
   · exact hK.elim
 · exact hK.elim
end
end Go.Vm
namespace Go.Vm
open Go.RowKit
section
variable {P : Program} {H : Hst} {w0 w w' : World} {g0 g g' gg : Gh} {s : Slots} {h h' : Heap} {a : Act} {o : Oper} {K : AV → Slots → Heap → Prop} {Q : Exit → Act → World → Prop}
theorem wp_of_pw {N : Nat} (hp : Pw P o a w ⟨fun _ => 0, 0, fun _ => 0⟩ (Aft N H w0 g0 o K)) : o.wp P a w (Aft N H w0 g0 o K) Q := by
 obtain ⟨v, h1, h2⟩ := hp
 unfold Oper.wp
 rw [h1 w fun _ _ _ _ h => h, Oper.upon_value]
 exact h2
theorem look_rep (r : R H w0 g0 s h g a w) (o : Operand) : ∃ g1, Keeps w g w g1 ∧ g1.n = g.n ∧ Rep w g1 (val (Vm.look s (ev s o))) (a.eval o) := by
 have hv := r.eval o
 cases hx : ev s o with
 | own m e sz xs =>
   cases o with
   | tmp t =>
     obtain ⟨g1, -, k1, p1, n1⟩ := own_publish r (t := t) hx
     exact ⟨g1, k1, n1, p1⟩
   | const v =>
     have := shared_cst v
     rw [show cst v = .own m e sz xs from hx] at this; cases this
   | func f => cases hx
   | global i => simp only [ev] at hx; split at hx <;> cases hx
 | alias k =>
   rw [hx] at hv
   simp only [Vm.look]
   cases hsk : s k with
   | own m e sz xs =>
     obtain ⟨g1, -, k1, p1, n1⟩ := own_publish r hsk
     rw [show a.eval o = tmOf a k from hv]
     exact ⟨g1, k1, n1, p1⟩
   | _ => exact ⟨g, Keeps.refl w g, rfl, .any _⟩
 | _ => rw [hx] at hv; exact ⟨g, Keeps.refl w g, rfl, rep_val hv⟩
theorem run_eqGuard_slice (op : BinOp) (t : TypeId) (x y : Operand) (b : Option Addr) (n c : Nat) (v : Value) : (eqGuard op t x y (.slice b n c) v).run P w = .ok () w := by cases op <;> rfl
theorem run_eqGuard_pointer (op : BinOp) (t : TypeId) (x y : Operand) (b : Option Addr) (v : Value) : (eqGuard op t x y (.pointer b) v).run P w = .ok () w := by cases op <;> rfl
theorem run_eqGuard_map (op : BinOp) (t : TypeId) (x y : Operand) (b : Option Nat) (v : Value) : (eqGuard op t x y (.map b) v).run P w = .ok () w := by cases op <;> rfl
theorem run_eqGuard_nilFunc (op : BinOp) (t : TypeId) (x y : Operand) (v : Value) : (eqGuard op t x y .nilFunc v).run P w = .ok () w := by cases op <;> rfl
theorem run_eqGuard_func (op : BinOp) (t : TypeId) (x y : Operand) (f : Fn) (b c : Array Value) (v : Value) : (eqGuard op t x y (.func f b c) v).run P w = .ok () w := by cases op <;> rfl
theorem desc_of {d : Option TypeDesc} {p : TypeDesc → Bool} (h : d.any p = true) : ∃ x, d = some x ∧ p x = true := (Option.any_eq_true _ _).1 h
theorem sound_nil {N : Nat} {op : BinOp} {t t' : TypeId} {x y : Operand} {b : Bool} (ho : o.op = .binOp op t x y t') (r : R H w0 g0 s h g a w) (hN : a.tmps.size = N) (hd : ∀ d, o.dst = some d → d < N)
   (hg : ∀ w : World, (eqGuard op t x y (a.eval x) (a.eval y)).run P w = .ok () w) (he : ∀ w : World, (Op.equal t (a.eval x) (a.eval y)).run P w = .ok b w)
   (hb : op = .eql ∨ op = .neq → ∀ z : Value, (binOp .eql t (a.eval x) (a.eval y)) = (do pure (.bool (← Op.equal t (a.eval x) (a.eval y)))) ∧ (binOp .neq t (a.eval x) (a.eval y)) = (do pure (.bool (!(← Op.equal t (a.eval x) (a.eval y))))))
   (hK : eqK op b fun v => K (.v v) s h) : Pw P o a w gg (Aft N H w0 g0 o K) := by
 unfold eqK at hK
 split at hK
 · refine aft_repP r hN hd (fun w => ?_) (.v rfl) hK
   simp only [execOp, ho, Sem.run_bind, hg, Result.andThen_ok, (hb (.inl rfl) undef).1, he, Sem.run_pure]
 · refine aft_repP r hN hd (fun w => ?_) (.v rfl) hK
   simp only [execOp, ho, Sem.run_bind, hg, Result.andThen_ok, (hb (.inr rfl) undef).2, he, Sem.run_pure]
 · exact hK.elim
theorem run_equalIn_slice (d : Nat) {t e : TypeId} (ht : P.underlying t = some (.slice e)) (b : Option Addr) (n c : Nat) : (Op.equalIn (d + 1) t (.slice b n c) (.slice none 0 0)).run P w = .ok b.isNone w := by
 cases b <;> simp [Op.equalIn, run_underlying ht]
theorem run_equal_slice {t e : TypeId} (ht : P.underlying t = some (.slice e)) (b : Option Addr) (n c : Nat) : (Op.equal t (.slice b n c) (.slice none 0 0)).run P w = .ok b.isNone w := run_equalIn_slice 9999 ht b n c
theorem run_equalIn_pointer (d : Nat) {t e : TypeId} (ht : P.underlying t = some (.pointer e)) (b : Option Addr) : (Op.equalIn (d + 1) t (.pointer b) (.pointer none)).run P w = .ok b.isNone w := by
 cases b <;> simp [Op.equalIn, run_underlying ht]
theorem run_equal_pointer {t e : TypeId} (ht : P.underlying t = some (.pointer e)) (b : Option Addr) : (Op.equal t (.pointer b) (.pointer none)).run P w = .ok b.isNone w := run_equalIn_pointer 9999 ht b
theorem run_equalIn_map (d : Nat) {t k e : TypeId} (ht : P.underlying t = some (.map k e)) (b : Option Nat) : (Op.equalIn (d + 1) t (.map b) (.map none)).run P w = .ok b.isNone w := by
 cases b <;> simp [Op.equalIn, run_underlying ht]
theorem run_equal_map {t k e : TypeId} (ht : P.underlying t = some (.map k e)) (b : Option Nat) : (Op.equal t (.map b) (.map none)).run P w = .ok b.isNone w := run_equalIn_map 9999 ht b
theorem run_equalIn_func (d : Nat) {t : TypeId} {p q : Array TypeId} {va : Bool} (ht : P.underlying t = some (.func p q va)) (f : Fn) (b c : Array Value) : (Op.equalIn (d + 1) t (.func f b c) .nilFunc).run P w = .ok false w := by
 simp [Op.equalIn, run_underlying ht]
theorem run_equal_func {t : TypeId} {p q : Array TypeId} {va : Bool} (ht : P.underlying t = some (.func p q va)) (f : Fn) (b c : Array Value) : (Op.equal t (.func f b c) .nilFunc).run P w = .ok false w := run_equalIn_func 9999 ht f b c
theorem run_equalIn_nilFunc (d : Nat) {t : TypeId} {p q : Array TypeId} {va : Bool} (ht : P.underlying t = some (.func p q va)) : (Op.equalIn (d + 1) t .nilFunc .nilFunc).run P w = .ok true w := by
 simp [Op.equalIn, run_underlying ht]
theorem run_equal_nilFunc {t : TypeId} {p q : Array TypeId} {va : Bool} (ht : P.underlying t = some (.func p q va)) : (Op.equal t .nilFunc .nilFunc).run P w = .ok true w := run_equalIn_nilFunc 9999 ht
theorem run_fitEq {d : TypeDesc} {e : TypeId} (dd : Nat) (hu : P.underlying e = some d) {x y : AV} {va vb : Value} {q : Bool} {ga gb : Gh} (ha : Rep w ga x va) (hb : Rep w gb y vb) (hq : fitEq d x y = some q) (w2 : World) : (Op.equalIn (dd + 1) e va vb).run P w2 = .ok q w2 := by
 unfold fitEq at hq
 split at hq
 · obtain ⟨rfl, -⟩ := rep_v ha
   obtain ⟨rfl, -⟩ := rep_v hb
   cases hq
   exact Go.run_equalIn_bool' w2 dd e _ _ hu
 · obtain ⟨rfl, -⟩ := rep_v ha
   obtain ⟨rfl, -⟩ := rep_v hb
   split at hq
   · rename_i hk
     subst hk; cases hq
     exact run_equalIn_int w2 dd e _ _ _ _ hu
   · cases hq
 · obtain ⟨rfl, -⟩ := rep_v ha
   obtain ⟨rfl, -⟩ := rep_v hb
   cases hq
   exact run_equalIn_string w2 dd e _ _ hu
 · cases hq
theorem run_fields (dd : Nat) (xs ys : Array Value) {ga gb : Gh} : ∀ (fs : List Field) (i : Nat) (ts : List TypeDesc) (as bs : List AV) (q : Bool), ((fs.zipIdx i).all fun p => p.1.name != "_" && p.1.offset == p.2 && P.plainKey p.1.type) = true →
   (fs.mapM fun f => P.underlying f.type) = some ts → fitAll ts as bs = some q → (∀ j u, as[j]? = some u → i + j < xs.size ∧ Rep w ga u (xs.getD (i + j) undef)) → (∀ j u, bs[j]? = some u → i + j < ys.size ∧ Rep w gb u (ys.getD (i + j) undef)) →
   ∀ w2, (Op.eqFields (dd + 1) xs ys fs).run P w2 = .ok q w2
 | [], i, ts, as, bs, q, _, ht, hq, _, _, w2 => by
   simp at ht
   subst ht
   match as, bs, hq with
   | [], [], hq => simp [fitAll] at hq; subst hq; simp [Op.eqFields]
   | _ :: _, _, hq => simp [fitAll] at hq
   | [], _ :: _, hq => simp [fitAll] at hq
 | f :: fs, i, ts, as, bs, q, hall, ht, hq, ha, hb, w2 => by
   rw [List.zipIdx_cons, List.all_cons, zTa] at hall
   obtain ⟨h1, hall⟩ := hall
   simp only [zTa, bne_iff_ne, ne_eq, beq_iff_eq] at h1
   obtain ⟨⟨hn, ho⟩, hp⟩ := h1
   rw [zMb] at ht
   simp only [bind, Option.bind_eq_some_iff, pure, Option.some.injEq] at ht
   obtain ⟨d, hd, ts', hts, rfl⟩ := ht
   match as, bs, hq with
   | [], _, hq => simp [fitAll] at hq
   | _ :: _, [], hq => simp [fitAll] at hq
   | a :: as, b :: bs, hq =>
     simp only [fitAll] at hq
     cases h2 : fitEq d a b with
     | none => rw [h2] at hq; simp at hq
     | some q1 =>
       cases h3 : fitAll ts' as bs with
       | none => rw [h2, h3] at hq; simp at hq
       | some q2 =>
         rw [h2, h3] at hq
         simp only [Option.some.injEq] at hq
         subst hq
         obtain ⟨a1, a2⟩ := ha 0 a rfl
         obtain ⟨b1, b2⟩ := hb 0 b rfl
         simp only [Nat.add_zero] at a1 a2 b1 b2
         have pa : (part f.type xs f.offset).run P w2 = .ok (xs.getD i undef) w2 := run_part_plain w2 hp (by rw [ho]; simp [Array.getD, a1])
         have pb : (part f.type ys f.offset).run P w2 = .ok (ys.getD i undef) w2 := run_part_plain w2 hp (by rw [ho]; simp [Array.getD, b1])
         have ih := run_fields dd xs ys fs (i + 1) ts' as bs q2 hall hts h3 (fun j u hu => by rw [show i + 1 + j = i + (j + 1) by omega]; exact ha (j + 1) u (by simpa using hu)) (fun j u hu => by rw [show i + 1 + j = i + (j + 1) by omega]; exact hb (j + 1) u (by simpa using hu)) w2
         simp only [Op.eqFields, ne_eq, hn, not_false_eq_true, if_true, Sem.run_bind, pa, pb, run_fitEq dd hd a2 b2 h2, Result.andThen_ok]
         cases q1
         · simp
         · simpa using ih
theorem sound_agg {N : Nat} {op : BinOp} {t t' : TypeId} {x y : Operand} (ho : o.op = .binOp op t x y t') (r : R H w0 g0 s h g a w) (hN : a.tmps.size = N) (hd : ∀ d, o.dst = some d → d < N) {lx : AV} {ds : List AV}
   {gx gy : Gh} (hx : Rep w gx lx (a.eval x)) (hy : Rep w gy (.agg ds) (a.eval y)) (hK : binAgg P op t lx ds fun v => K (.v v) s h) : Pw P o a w gg (Aft N H w0 g0 o K) := by
 unfold binAgg at hK
 split at hK
 · rename_i cs
   obtain ⟨ts, b, hf, hb, hK⟩ := hK
   unfold flatDs at hf
   split at hf
   · rename_i fs hu
     split at hf
     · rename_i hc
       simp only [zTa, Bool.not_eq_true'] at hc
       obtain ⟨⟨h1, h2⟩, h3⟩ := hc
       generalize hvx : a.eval x = vx at hx
       generalize hvy : a.eval y = vy at hy
       cases hx with
       | agg lx1 lx2 lx3 =>
         cases hy with
         | agg ly1 ly2 ly3 =>
           rename_i xs ys
           have hfs : P.fieldsOf t = fs := by unfold Program.fieldsOf; rw [hu]
           refine sound_nil ho r hN hd (fun w => ?_) (fun w2 => ?_) (fun _ _ => ?_) hK
           · rw [hvx, hvy]; exact run_eqGuard_agg w op t x y xs ys h3
           · rw [hvx, hvy, Op.equal, Op.maxDepth, show (10000 : Nat) = 9998 + 1 + 1 from rfl, run_equalIn_struct w2 _ t xs ys (by rw [hfs]; exact hu) h2, hfs]
             refine run_fields (w := w) (ga := gx) (gb := gy) 9998 xs ys fs.toList 0 ts cs ds b h1 hf hb (fun j u hu => ?_) (fun j u hu => ?_) w2
             · rw [zKb]
               refine ⟨?_, lx3 j u hu⟩
               rw [lx1]
               rcases zMa j cs.length with h' | h'
               · exact h'
               · rw [zJa h'] at hu; cases hu
             · rw [zKb]
               refine ⟨?_, ly3 j u hu⟩
               rw [ly1]
               rcases zMa j ds.length with h' | h'
               · exact h'
               · rw [zJa h'] at hu; cases hu
           · rw [hvx, hvy]; exact ⟨rfl, rfl⟩
     · cases hf
   · cases hf
 · exact hK.elim
theorem sound_binXP {N : Nat} {op : BinOp} {t t' : TypeId} {x y : Operand} (ho : o.op = .binOp op t x y t') (r : R H w0 g0 s h g a w) (hN : a.tmps.size = N) (hd : ∀ d, o.dst = some d → d < N)
   (hK : awpBinX P op t (look s (ev s x)) (look s (ev s y)) fun v => K (.v v) s h) : Pw P o a w gg (Aft N H w0 g0 o K) := by
 unfold awpBinX at hK
 have hx := r.look x
 obtain ⟨g1, k1, n1, px⟩ := look_rep r x
 have hy := r.look y
 split at hK
 · rename_i hly
   rw [hly] at hy
   obtain ⟨ht, hK⟩ := hK
   obtain ⟨d, hdt, hm⟩ := desc_of ht
   cases d <;> simp at hm
   have fin : ∀ (b : Option Addr) (n c : Nat), a.eval x = .slice b n c → eqK op b.isNone (fun v => K (.v v) s h) → Pw P o a w gg (Aft N H w0 g0 o K) := fun b n c hv hk => by
     refine sound_nil ho r hN hd (fun w => by rw [hv]; exact run_eqGuard_slice ..) (fun w => by rw [hv, hy.1]; exact run_equal_slice hdt b n c) (fun _ _ => ?_) hk
     rw [hv, hy.1]; exact ⟨rfl, rfl⟩
   unfold nilSl at hK
   split at hK
   · rename_i hlx; rw [hlx] at hx; exact fin _ _ _ hx.1 hK
   · rename_i sz hlx
     rw [hlx] at hx
     obtain ⟨b, n, c, hv, -, -⟩ := hx
     exact fin b n c hv (hK _)
   · rename_i sz z zs hlx
     rw [hlx] at px
     generalize hv : a.eval x = v at px
     cases px with
     | sl vs hc hm' hsz hu hr hs => exact fin _ _ _ hv hK
   · exact hK.elim
 · rename_i hly
   rw [hly] at hy
   obtain ⟨ht, hK⟩ := hK
   obtain ⟨d, hdt, hm⟩ := desc_of ht
   cases d <;> simp at hm
   have fin : ∀ (b : Option Addr), a.eval x = .pointer b → eqK op b.isNone (fun v => K (.v v) s h) → Pw P o a w gg (Aft N H w0 g0 o K) := fun b hv hk => by
     refine sound_nil ho r hN hd (fun w => by rw [hv]; exact run_eqGuard_pointer ..) (fun w => by rw [hv, hy.1]; exact run_equal_pointer hdt b) (fun _ _ => ?_) hk
     rw [hv, hy.1]; exact ⟨rfl, rfl⟩
   unfold nilPt at hK
   split at hK
   · rename_i hlx; rw [hlx] at hx; exact fin _ hx.1 hK
   · rename_i i off hlx
     rw [hlx] at px
     generalize hv : a.eval x = v at px
     cases px with | ptr _ _ hi => exact fin _ hv hK
   · rename_i cs hlx
     rw [hlx] at px
     generalize hv : a.eval x = v at px
     cases px with | eptr vs hr hs => exact fin _ hv hK
   · exact hK.elim
 · rename_i hly
   rw [hly] at hy
   obtain ⟨ht, hK⟩ := hK
   obtain ⟨d, hdt, hm⟩ := desc_of ht
   cases d <;> simp at hm
   have fin : ∀ (b : Option Nat), a.eval x = .map b → eqK op b.isNone (fun v => K (.v v) s h) → Pw P o a w gg (Aft N H w0 g0 o K) := fun b hv hk => by
     refine sound_nil ho r hN hd (fun w => by rw [hv]; exact run_eqGuard_map ..) (fun w => by rw [hv, hy.1]; exact run_equal_map hdt b) (fun _ _ => ?_) hk
     rw [hv, hy.1]; exact ⟨rfl, rfl⟩
   unfold nilMp at hK
   split at hK
   · rename_i hlx; rw [hlx] at hx; exact fin _ hx.1 hK
   · rename_i i hlx
     rw [hlx] at px
     generalize hv : a.eval x = v at px
     cases px with | mp _ hi => exact fin _ hv hK
   · exact hK.elim
 · rename_i hly
   rw [hly] at hy
   obtain ⟨ht, hK⟩ := hK
   obtain ⟨d, hdt, hm⟩ := desc_of ht
   cases d <;> simp at hm
   unfold nilFn at hK
   split at hK
   · rename_i hlx
     rw [hlx] at hx
     refine sound_nil ho r hN hd (fun w => by rw [hx.1]; exact run_eqGuard_nilFunc ..) (fun w => by rw [hx.1, hy.1]; exact run_equal_nilFunc hdt) (fun _ _ => ?_) hK
     rw [hx.1, hy.1]; exact ⟨rfl, rfl⟩
   · rename_i f caps hlx
     rw [hlx] at px
     generalize hv : a.eval x = v at px
     cases px with
     | clo hl hs =>
       refine sound_nil ho r hN hd (fun w => by rw [hv]; exact run_eqGuard_func ..) (fun w => by rw [hv, hy.1]; exact run_equal_func hdt ..) (fun _ _ => ?_) hK
       rw [hv, hy.1]; exact ⟨rfl, rfl⟩
   · exact hK.elim
 · rename_i ds hly
   obtain ⟨g2, k2, n2, py⟩ := look_rep r y
   rw [hly] at py
   unfold binAgg at hK
   split at hK
   · rename_i cs hlx
     rw [hlx] at px
     exact sound_agg (lx := .agg cs) ho r hN hd px py hK
   · exact hK.elim
 · exact sound_binP ho r hN hd hK
theorem bytesT_spec {t : TypeId} (ht : bytesT P t = true) : ∃ e, P.underlying t = some (.slice e) ∧ P.underlying e = some (.int .u8) := by
 unfold bytesT at ht
 split at ht
 · rename_i e he
   split at ht
   · rename_i he2; exact ⟨e, he, he2⟩
   · cases ht
 · cases ht
theorem flat_enc : ∀ l : List UInt8, flat (l.map encB) = l.map encB := fun l => by
 induction l with
 | nil => rfl
 | cons y ys ih => simp only [flat, List.map_cons, List.flatMap_cons] at ih ⊢; rw [ih]; rfl
theorem sound_strOf {N : Nat} {t t' : TypeId} {x : Operand} (ho : o.op = .convert t t' x) (r : R H w0 g0 s h g a w) (hN : a.tmps.size = N) (hd : ∀ d, o.dst = some d → d < N)
   (hu : P.underlying t' = some .string) (hK : awpStrOf P t (look s (ev s x)) fun v => K v s h) : o.wp P a w (Aft N H w0 g0 o K) Q := by
 have hx := r.look x
 obtain ⟨g1, k1, n1, px⟩ := look_rep r x
 have fin : ∀ b : ByteArray, (convert t t' (a.eval x)).run P w = .ok (.string b) w → K (.v (.string b)) s h → o.wp P a w (Aft N H w0 g0 o K) Q := fun b hrun hk =>
   aft_rep r hN hd (by simp only [execOp, ho, Sem.run_bind, hrun, Result.andThen_ok]; rfl) (.v rfl) hk
 unfold awpStrOf at hK
 split at hK
 · rename_i sz xs hlx
   obtain ⟨rfl, hb, l, rfl, hK⟩ := hK
   obtain ⟨e, h1, h2⟩ := bytesT_spec hb
   rw [hlx] at px
   have px' : Rep w g1 (.sl 1 (l.map encB)) (a.eval x) := px
   refine fin _ ?_ hK
   generalize a.eval x = v at px'
   have hmap : ∀ l : List UInt8, strOfNums (l.map fun b => (b.toNat : Int)) = ⟨l.toArray⟩ := fun l => by
     simp [strOfNums, Function.comp_def]
   generalize hys : l.map encB = ys at px'
   cases px' with
   | nil =>
     have : l = [] := by simpa using hys
     subst this
     exact run_convert_bytes_nil w t e h1 h2 0 0 t' hu
   | empty _ ad c hc =>
     have : l = [] := by simpa using hys
     subst this
     rw [run_convert_bytes_string w t t' e _ 0 c h1 h2 hu]
     have := run_bytesToString (P := P) w ad 0 c [] (by simpa using run_loadCells_list (P := P) w ad [] (by simp))
     rw [this]; rfl
   | @sl _ _ b off c vs hc hm hsz hu' hr hs =>
     subst hys
     have hl : (l.map encB).length = l.length := by simp
     rw [hl] at hc ⊢
     have := run_convert_bytes_arg w t e h1 h2 b off l.length c (l.map fun b => (b.toNat : Int)) (by simp) (fun i hi => by
       have hj : (flat (l.map encB))[i]? = some (encB l[i]) := by rw [flat_enc]; simp [hi]
       rw [(hr i _ hj).1]
       have := (rep_v (hs i _ hj)).1
       rw [this]; simp [hi]) t' hu
     rw [hmap] at this
     exact this
 · rename_i hlx
   rw [hlx] at hx
   obtain ⟨hb, hK⟩ := hK
   obtain ⟨e, h1, h2⟩ := bytesT_spec hb
   refine fin _ ?_ hK
   rw [hx.1]
   exact run_convert_bytes_nil w t e h1 h2 0 0 t' hu
 · rename_i b hlx
   rw [hlx] at hx
   refine fin _ ?_ hK.2
   rw [hx.1]
   simp [convert, run_underlying hu, run_underlying hK.1]
 · exact hK.elim
theorem R.publish_new (r : R H w0 g0 s h g a w) {b n : Nat} (hp : ∀ i, privB (s i) (tmOf a i) ≠ some b) (hl : ∀ k, k < g.n → g.loc k ≠ b) (hB : w0.heap.size ≤ b) (hb : b < w.heap.size) (h0 : g.pub b = 0) : R H w0 g0 s h (raise g b n) a w :=
 r.world (keeps_raise w g b n) rfl (fun i k hk => ⟨rfl, raise_other fun e => hp i (e ▸ hk)⟩) (fun i hi => ⟨rfl, raise_other (hl i hi)⟩) r.frame (zVa _) (fun k hk => raise_other (by omega)) (fun k hk => by rw [raise_other (by omega)]; exact r.fresh k hk)
theorem sound_bytesOf {N : Nat} {t t' : TypeId} {x : Operand} {b : ByteArray} (ho : o.op = .convert t t' x) (r : R H w0 g0 s h g a w) (hN : a.tmps.size = N) (hd : ∀ d, o.dst = some d → d < N)
   (hx : a.eval x = .string b) (hb : bytesT P t' = true) (hs : P.underlying t = some .string) (hl : b.size ≤ maxLen) (hK : K (.sl 1 (b.data.toList.map encB)) s h) : o.wp P a w (Aft N H w0 g0 o K) Q := by
 obtain ⟨e, h1, h2⟩ := bytesT_spec hb
 have hrun := run_bytes_of_string (P := P) w t t' e b hs h1 h2
 have hcap := grownCap_le_maxLen w b.size 0 e hl
 have hge := grownCap_ge w b.size 0 e
 generalize grownCap w b.size 0 e = cap at hrun hcap hge
 have rd := r.drew
 have r1 := rd.alloc (.cells (bytesRow b cap) e ((bytesRow b cap).size, (bytesRow b cap).size + 1))
 have hsep := rd.sep_new
 have r2 := r1.publish_new (b := w.heap.size) (n := b.size) hsep.1 hsep.2 r.frame.size (by show _ < Array.size (Array.push _ _); simp) (r.fresh _ (zVa _))
 refine aft_world r2 hN hd (by simp only [execOp, ho, Sem.run_bind, hx, hrun, Result.andThen_ok]; rfl) (slotRep_of_rep (x := .sl 1 (b.data.toList.map encB)) rfl ?_) (fun b hb => by cases hb) hK
 have hbs : b.data.toList.length = b.size := Array.length_toList
 have hlen : (b.data.toList.map encB).length = b.size := by rw [List.length_map]; exact hbs
 by_cases h0 : b.size = 0
 · have : b.data.toList = [] := zRa (by omega)
   rw [this, h0]
   exact .empty 1 _ _ hcap
 · have key := Rep.sl (w := w.drew.alloc (.cells (bytesRow b cap) e ((bytesRow b cap).size, (bytesRow b cap).size + 1))) (g := raise g w.heap.size b.size) (sz := 1) (xs := b.data.toList.map encB) (b := w.heap.size) (o := 0) (c := cap)
     (fun j => .int .u8 ((b.data.toList.getD j 0).toNat : Nat)) (by rw [hlen]; exact hge) hcap (by decide) (fun u hu => by obtain ⟨y, -, rfl⟩ := List.mem_map.1 hu; rfl) (fun j u hj => ?_) (fun j u hj => ?_)
   · rw [hlen] at key; exact key
   all_goals
     rw [flat_enc] at hj
     have hjl : j < b.data.toList.length := by
       rcases zMa j b.data.toList.length with h' | h'
       · exact h'
       · rw [zJa (by simpa using h')] at hj; cases hj
   · refine ⟨?_, ?_, rfl⟩
     · have hrow : (w.drew.alloc (.cells (bytesRow b cap) e ((bytesRow b cap).size, (bytesRow b cap).size + 1))).heap[w.heap.size]? = some (.cells (bytesRow b cap) e ((bytesRow b cap).size, (bytesRow b cap).size + 1)) := heap_alloc_new w.drew _
       rw [cell_of_row _ _ _ _ _ _ hrow]
       have : 0 + j < b.data.size := by simpa using hjl
       simp only [bytesRow]
       rw [Array.getElem?_append_left (by simpa using this)]
       simp only [zKb] at this ⊢
       simp [this]
       rw [Array.getElem?_eq_getElem this]
       exact ⟨_, rfl, rfl⟩
     · simp only [raise, if_true, zKb]
       omega
   · simp only [List.getElem?_map, zLa hjl, Option.map_some, Option.some.injEq] at hj
     subst hj
     have : b.data.toList.getD j 0 = b.data.toList[j] := by rw [zIa, zLa hjl]; rfl
     rw [this]
     exact .v rfl
theorem sound_cvX {N : Nat} {t t' : TypeId} {x : Operand} (ho : o.op = .convert t t' x) (r : R H w0 g0 s h g a w) (hN : a.tmps.size = N) (hd : ∀ d, o.dst = some d → d < N)
   (hK : awpCvX P t t' (tk s x) (look s (ev s x)) (ev s x) s fun v s' => K v s' h) : o.wp P a w (Aft N H w0 g0 o K) Q := by
 unfold awpCvX at hK
 split at hK
 · rename_i hu; exact sound_strOf ho r hN hd hu hK
 · split at hK
   · rename_i b hl
     have hx := r.look x
     rw [hl] at hx
     exact sound_bytesOf ho r hN hd hx.1 hK.1 hK.2.1 hK.2.2.1 hK.2.2.2
   · exact sound_cv ho r hN hd hK
theorem sound_indexP {N : Nat} {t : TypeId} {x i : Operand} (ho : o.op = .index t x i) (r : R H w0 g0 s h g a w) (hN : a.tmps.size = N) (hd : ∀ d, o.dst = some d → d < N)
   (hK : awpIndex P t (ev s x) (ev s i) fun v => K v s h) : Pw P o a w gg (Aft N H w0 g0 o K) := by
 have hx := r.eval x
 have hi := r.eval i
 unfold awpIndex at hK
 split at hK
 · rename_i b k n ex ei
   rw [ex] at hx; rw [ei] at hi
   obtain ⟨hu, ⟨h0, h1⟩, hK⟩ := hK
   refine aft_repP r hN hd (fun w => ?_) (.v rfl) hK
   have hlt : n.toNat < b.size := by omega
   have hg : b[n.toNat]? = some (b.data.toList.getD n.toNat 0) := by
     have hd : n.toNat < b.data.size := hlt
     rw [getElem?_pos b n.toNat hlt]
     congr 1
     show b.data[n.toNat] = _
     rw [zIa, Array.getElem?_toList, Array.getElem?_eq_getElem hd]
     rfl
   simp [execOp, ho, (rep_v hx).1, (rep_v hi).1, Instr.index, run_underlying hu, asIntOf, h0, hg]
 · rename_i cs k n ex ei
   rw [ex] at hx; rw [ei] at hi
   split at hK
   · rename_i len e hu
     obtain ⟨⟨k2, hk2⟩, hsz, ⟨h0, h1⟩, hK⟩ := hK
     split at hK
     · rename_i y hc
       have hx' : Rep w g (.agg cs) (a.eval x) := hx
       generalize hv : a.eval x = v at hx'
       cases hx' with
       | @agg _ vs hl h1' hs =>
         have hr := hs n.toNat _ hc
         have hlt : n.toNat < vs.size := by
           rcases zMa n.toNat cs.length with h' | h'
           · omega
           · rw [zJa h'] at hc; cases hc
         obtain ⟨ie, hie, hies⟩ : ∃ ie, P.info? e = some ie ∧ ie.size = 1 := by
           cases he : P.info? e with
           | none => rw [he] at hsz; cases hsz
           | some ie => rw [he] at hsz; exact ⟨ie, rfl, by simpa using hsz⟩
         refine aft_repP r hN hd (x := .v y) (v := vs.getD n.toNat undef) (fun w => ?_) hr hK
         have ha : (isAgg e).run P w = .ok false w := by
           unfold isAgg
           simp only [Sem.run_bind, run_underlying hk2, Result.andThen_ok]
           rfl
         have hg : vs[n.toNat]? = some (vs.getD n.toNat undef) := by simp [Array.getD, hlt]
         have hpart : (part e vs (n.toNat * 1)).run P w = .ok (vs.getD n.toNat undef) w := by
           rw [Nat.mul_one]
           simp only [part, Sem.run_bind, ha, Result.andThen_ok, zOb, if_false, hg]; rfl
         simp [execOp, ho, hv, (rep_v hi).1, Instr.index, run_underlying hu, asIntOf, h0, h1, run_sizeOf hie, hies] at hpart ⊢
         rw [hpart]; rfl
     · exact hK.elim
   · exact hK.elim
 · exact hK.elim
theorem arrSz_spec {t : TypeId} {len sz : Nat} (hA : arrSz P t = some (len, sz)) : ∃ e i, P.underlying t = some (.array len e) ∧ P.info? e = some i ∧ i.size = sz ∧ 0 < sz := by
 unfold arrSz at hA
 split at hA
 · rename_i l e hu
   split at hA
   · rename_i i hi
     split at hA
     · simp only [Option.some.injEq, Prod.mk.injEq] at hA
       obtain ⟨rfl, rfl⟩ := hA
       exact ⟨e, i, hu, hi, rfl, by assumption⟩
     · cases hA
   · cases hA
 · cases hA
theorem sound_arrP {N : Nat} {t : TypeId} {x i : Operand} {len sz : Nat} (ho : o.op = .indexAddr t x i) (r : R H w0 g0 s h g a w) (hN : a.tmps.size = N) (hd : ∀ d, o.dst = some d → d < N)
   (hA : arrSz P t = some (len, sz)) (hK : awpArr len sz (mv s x) (ev s i) fun v => K v s h) : Pw P o a w gg (Aft N H w0 g0 o K) := by
 obtain ⟨e, inf, hu, hinf, hsz, hpos⟩ := arrSz_spec hA
 have hm := (r.mv x).1
 have hi := r.eval i
 unfold awpArr at hK
 split at hK
 · rename_i k n ei
   rw [ei] at hi
   obtain ⟨⟨h0, h1⟩, hK⟩ := hK
   have hrun : ∀ b o', a.eval x = .pointer (some ⟨b, o', none⟩) → ∀ w : World, (execOp a.eval o).run P w = .ok (.value (.pointer (some ⟨b, o' + n.toNat * sz, none⟩))) w := fun b o' he w => by
     simp [execOp, ho, he, (rep_v hi).1, Instr.indexAt, run_underlying hu, Instr.sureAddr, asIntOf, h0, h1, run_sizeOf hinf, hsz, addr_add]
   split at hK
   · rename_i k' off he
     rw [he] at hm
     obtain ⟨b, hb, hv⟩ := hm
     exact aft_valueP r hN hd (hrun b off hv) (x := .place k' (off + n.toNat * sz)) ⟨b, hb, rfl⟩ (fun b hb => by cases hb) hK
   · rename_i cs he
     rw [he] at hm
     have hm' : Rep w g (.eptr cs) (a.eval x) := hm
     generalize hv : a.eval x = v at hm'
     cases hm' with
     | @eptr _ b off vs hr hs =>
       refine aft_repP r hN hd (hrun b off hv) (.eptr (fun j => vs (n.toNat * sz + j)) (fun j u hj => ?_) (fun j u hj => ?_)) hK
       · rw [zUa] at hj
         rw [Nat.add_assoc]; exact hr _ _ hj
       · rw [zUa] at hj; exact hs _ _ hj
   · rename_i k' off he
     rw [he] at hm
     have hm' : Rep w g (.ptr k' off) (a.eval x) := hm
     generalize hv : a.eval x = v at hm'
     cases hm' with
     | ptr _ _ hi => exact aft_repP r hN hd (hrun _ off hv) (.ptr k' _ hi) hK
   · exact hK.elim
 · exact hK.elim
theorem sound_idxXP {N : Nat} {t : TypeId} {x i : Operand} (ho : o.op = .indexAddr t x i) (r : R H w0 g0 s h g a w) (hN : a.tmps.size = N) (hd : ∀ d, o.dst = some d → d < N)
   (hK : awpIdxX s (elemSz P t) (arrSz P t) (mv s x) (ev s x) (ev s i) fun v => K v s h) : Pw P o a w gg (Aft N H w0 g0 o K) := by
 unfold awpIdxX at hK
 split at hK
 · rename_i len sz hA; exact sound_arrP ho r hN hd hA hK
 · split at hK
   · rename_i k hm
     have hmv := (r.mv x).1
     rw [hm] at hmv
     have hex : a.eval x = tmOf a k := hmv
     have hk := r.slots k
     unfold awpIdxO at hK
     split at hK
     · rename_i e sz m' e' sz' xs k' n he hsk hi
       rw [hsk] at hk
       obtain ⟨rfl, hb, hK⟩ := hK
       obtain ⟨hu, inf, hinf, hsz⟩ := elemSz_spec he
       have hri := r.eval i
       rw [hi] at hri
       have hei : a.eval i = .int k' n := (rep_v hri).1
       obtain ⟨hpos, huc, vs, hrow, -⟩ := hk
       rcases hrow.2 with ⟨-, h0⟩ | ⟨gb, cap, cur, hv, -⟩
       · omega
       · have hv' : tmOf a k = .slice (some ⟨gb, 0, none⟩) xs.length cap := hv
         refine aft_valueP r hN hd (v := .pointer (some ⟨gb, n.toNat * sz', none⟩)) (fun w => ?_) (x := .elt k sz' n.toNat 0) ⟨gb, cap, xs.length, hv', by simp⟩ (fun b hb => by cases hb) hK
         simp [execOp, ho, hex, hv', hei, Instr.indexAt, run_underlying hu, asIntOf, hb.1, hb.2, run_sizeOf hinf, hsz, addr_add]
     · exact hK.elim
   · rename_i id off n c hm
     have hmv := (r.mv x).1
     rw [hm] at hmv
     have hmv' : Rep w g (.osl id off n c) (a.eval x) := hmv
     unfold awpIdxL at hK
     split at hK
     · rename_i e sz k' q he hi
       obtain ⟨hb, hK⟩ := hK
       obtain ⟨hu, inf, hinf, hsz⟩ := elemSz_spec he
       have hri := r.eval i
       rw [hi] at hri
       have hei : a.eval i = .int k' q := (rep_v hri).1
       generalize hv' : a.eval x = v at hmv'
       cases hmv' with
       | osl _ _ _ _ hid hc hmx =>
         refine aft_repP r hN hd (v := .pointer (some ⟨g.loc id, off + q.toNat * sz, none⟩)) (fun w => ?_) (x := .ptr id (off + q.toNat * sz)) (.ptr id _ hid) hK
         simp [execOp, ho, hv', hei, Instr.indexAt, run_underlying hu, asIntOf, hb.1, hb.2, run_sizeOf hinf, hsz, addr_add]
     · exact hK.elim
   · unfold awpIdx at hK
     split at hK
     · rename_i he
       split at hK
       · rename_i hx hi; exact sound_indexAddrP ho r hN hd he hx hi hK.1 hK.2
       · exact hK.elim
     · exact hK.elim
theorem slotOf_spec (r : R H w0 g0 s h g a w) {x : Operand} {k : Nat} (hx : slotOf s x = some k) : a.eval x = tmOf a k := by
 unfold slotOf at hx
 split at hx
 · rename_i t
   split at hx
   · simp only [Option.some.injEq] at hx; subst hx; rfl
   · rename_i k' he
     simp only [Option.some.injEq] at hx; subst hx
     have := r.slots t
     rw [he] at this
     exact this
   · cases hx
 · cases hx
theorem look_cells (r : R H w0 g0 s h g a w) {y : Operand} {sz : Nat} {ys : List AV} (hly : look s (ev s y) = .sl sz ys) (hyn : 0 < ys.length) :
   ∃ (yad : Addr) (c : Nat) (cv : Nat → Value), a.eval y = .slice (some yad) ys.length c ∧ (∀ j, j < ys.length * sz → w.cell? (yad.add j) = some (cv j) ∧ (cv j).oneCell' = true ∧ ∀ u, (flat ys)[j]? = some u → Rep w g u (cv j)) ∧ ∀ c ∈ ys, c.cells.length = sz := by
 have hv := r.eval y
 have fromOwn : ∀ (m : Bool) (e sz' : Nat) (xs : List AV) (v : Value), v = a.eval y → OwnRep w g w0.heap.size m e sz' xs v → sz' = sz → xs = ys →
     ∃ (yad : Addr) (c : Nat) (cv : Nat → Value), a.eval y = .slice (some yad) ys.length c ∧ (∀ j, j < ys.length * sz → w.cell? (yad.add j) = some (cv j) ∧ (cv j).oneCell' = true ∧ ∀ u, (flat ys)[j]? = some u → Rep w g u (cv j)) ∧ ∀ c ∈ ys, c.cells.length = sz := by
   rintro m e sz' xs v hve ⟨q1, q2, vs, q3, q4, q5, q6⟩ rfl rfl
   rcases q3.2 with ⟨rfl, h0⟩ | ⟨gb, cap, cur, hv', b1, b2, b3, b4, b5, b6⟩
   · omega
   · refine ⟨⟨gb, 0, none⟩, cap, fun j => vs.getD j undef, by rw [← hve, hv'], fun j hj => ?_, q2⟩
     have hj' : j < vs.length := by rw [q3.1]; exact hj
     refine ⟨?_, q4 _ ?_, fun u hu => q5 j u hu⟩
     · rw [addr_add, zKb]
       exact ownsRow_cell q3 hv' j hj'
     · show vs.getD j undef ∈ vs
       rw [zIa, zLa hj']
       exact zWa _
 cases hx : ev s y with
 | own m e sz2 xs =>
   rw [hx] at hv hly
   simp only [Vm.look, AV.sl.injEq] at hly
   exact fromOwn m e _ _ _ rfl hv hly.1 hly.2
 | alias k =>
   rw [hx] at hv hly
   have hkk := r.slots k
   simp only [Vm.look] at hly
   cases hsk : s k with
   | own m e sz2 xs =>
     rw [hsk] at hkk hly
     simp only [lookAl, AV.sl.injEq] at hly
     exact fromOwn m e _ _ (tmOf a k) (show tmOf a k = a.eval y from (show a.eval y = tmOf a k from hv).symm) hkk hly.1 hly.2
   | _ => rw [hsk] at hly; simp [lookAl] at hly
 | sl sz2 xs =>
   rw [hx] at hv hly
   simp only [Vm.look, AV.sl.injEq] at hly
   obtain ⟨rfl, rfl⟩ := hly
   have hv' : Rep w g (.sl sz2 xs) (a.eval y) := hv
   generalize a.eval y = v at hv'
   cases hv' with
   | nil => simp at hyn
   | empty => simp at hyn
   | @sl _ _ b off c cv hc hm hsz' hu hr hs =>
     have hfl := flat_length hu
     refine ⟨_, c, cv, rfl, fun j hj => ?_, hu⟩
     have := hr j _ (zLa (show j < (flat xs).length by omega))
     rw [addr_add]
     exact ⟨this.1, this.2.2, fun u hu => hs j u hu⟩
 | _ => rw [hx] at hly; simp [Vm.look] at hly
theorem sound_copy {N : Nat} {x y : Operand} {os : Array Operand} {ts : Array TypeId} {t tx : TypeId} (ho : o.op = .call { callee := .builtin .copy, args := os, argTypes := ts }) (hos : os.toList = [x, y]) (hts : ts.toList = [t, tx])
   (r : R H w0 g0 s h g a w) (hN : a.tmps.size = N) (hd : ∀ d, o.dst = some d → d < N)
   (hK : awpCopy P t (slotOf s x) (look s (ev s y)) s fun v s' => K v s' h) : o.wp P a w (Aft N H w0 g0 o K) Q := by
 have hA : os.map a.eval = #[a.eval x, a.eval y] := by apply Array.ext'; simp [hos]
 have hT' : ts = #[t, tx] := by apply Array.ext'; simp [hts]
 have hex : ∀ v w', (Builtin.copy_ #[t, tx] o.type #[a.eval x, a.eval y]).run P w = .ok v w' → (execOp a.eval o).run P w = .ok (.value v) w' := fun v w' hv => by
   simp [execOp, ho, resolve, invoke, builtin, hA, hT', hv]
 unfold awpCopy at hK
 split at hK
 · rename_i e sz k he hk
   obtain ⟨rfl, hK⟩ := hK
   obtain ⟨hu, inf, hinf, hisz⟩ := elemSz_spec he
   have hx := slotOf_spec r hk
   unfold copyTo at hK
   split at hK
   · rename_i e' sz xs sz' ys hsk hly
     obtain ⟨rfl, rfl, hK⟩ := hK
     obtain ⟨g1, k1, n1, py⟩ := look_rep r y
     rw [hly] at py
     have py' : Rep w g1 (.sl 1 ys) (a.eval y) := py
     have hsl := r.slots k
     rw [hsk] at hsl
     obtain ⟨hpos, hux, vs, hrow, hone, hrep, hpub⟩ := hsl
     have hsz1 : (P.info? e).map (·.size) = some 1 := by rw [hinf]; simp [hisz]
     have hys := rep_sl_shape py'
     obtain ⟨yb, yc, hyv, hyc⟩ := hys
     have hxv : ∃ xb xc, a.eval x = .slice xb xs.length xc := by
       rw [hx]
       rcases hrow.2 with ⟨hv, h0⟩ | ⟨gb, cap, cur, hv, -⟩
       · exact ⟨_, _, by rw [show tmOf a k = _ from hv, h0]⟩
       · exact ⟨_, _, hv⟩
     obtain ⟨xb, xc, hxv⟩ := hxv
     by_cases h0 : min ys.length xs.length = 0
     · have hsame : ys.take xs.length ++ xs.drop ys.length = xs := by
         rcases Nat.le_total ys.length xs.length with h1 | h1
         · have : ys = [] := zRa (by omega)
           subst this; simp
         · have : xs = [] := zRa (by omega)
           subst this; simp
       rw [hsame, h0] at hK
       have hset : Vm.set s k (.own true e' 1 xs) = s := by funext i; unfold Vm.set; split <;> simp_all
       rw [hset] at hK
       refine aft_rep r hN hd (v := goInt 0) (hex _ _ ?_) (.v rfl) hK
       rw [hxv, hyv]
       exact run_copy_none w t tx _ e _ _ _ _ _ _ hu hsz1 h0
     · have hxn : 0 < xs.length := by omega
       have hyn : 0 < ys.length := by omega
       rcases hrow.2 with ⟨hv, hz⟩ | ⟨gb, cap, cur, hv, b1, b2, b3, b4, b5, b6⟩
       · omega
       · have hpb : privB (s k) (tmOf a k) = some gb := by rw [hsk]; show Value.ownBlock (a.tmps.getD k undef) = _; rw [hv]; rfl
         have hp0 : g.pub gb = 0 := by have := hpub gb (by rw [hv]; rfl); simpa using this
         obtain ⟨yad, yc, cv, hyv2, hcv, huy⟩ := look_cells r hly hyn
         have hn1 : min ys.length xs.length ≤ xs.length := Nat.min_le_right ..
         have hn2 : min ys.length xs.length ≤ ys.length := Nat.min_le_left ..
         generalize hnn : min ys.length xs.length = n at hK h0 hn1 hn2
         have hcl : ((zIb n).map cv).length = n := by simp
         have hcur : xs.length ≤ cur.size := by rw [b5]; omega
         have hrun := run_copy_row P w t tx o.type e gb 0 xs.length cap yad ys.length yc cur e' ((zIb n).map cv) hu hsz1 b2 (by rw [hcl]; exact hnn.symm) (fun j v hj => by
           have hjn : j < n := by
             rcases zMa j n with h' | h'
             · exact h'
             · rw [zJa (by simpa using h')] at hj; cases hj
           simp [hjn] at hj
           subst hj
           exact (hcv j (by omega)).1) (by rw [hcl]; omega) (fun v hv => by
           obtain ⟨j, hj, rfl⟩ := List.mem_map.1 hv
           exact (hcv j (by have := List.mem_range.1 hj; omega)).2.1)
         rw [hcl] at hrun
         simp only [zKb, List.take_zero, List.nil_append] at hrun
         have hkp : Keeps w g (w.setRow gb ((zIb n).map cv ++ cur.toList.drop n).toArray) g := keeps_setRow (e := e') (cur := cur) (fr := (0, 0)) hp0
         have hxs' : ys.take xs.length ++ xs.drop ys.length = ys.take n ++ xs.drop n := by
           rcases Nat.le_total ys.length xs.length with h1 | h1
           · have : n = ys.length := by omega
             subst this
             rw [List.take_of_length_le h1, List.take_length]
           · have : n = xs.length := by omega
             subst this
             rw [zNb h1, List.drop_length]
         have hlen' : (ys.take n ++ xs.drop n).length = xs.length := by simp; omega
         have hvl : vs.length = xs.length := by simpa using hrow.1
         rw [hxs'] at hK
         have hown : OwnRep (w.setRow gb ((zIb n).map cv ++ cur.toList.drop n).toArray) g w0.heap.size true e' 1 (ys.take n ++ xs.drop n) (tmOf a k) := by
           refine ⟨hpos, fun c hc => ?_, (zIb n).map cv ++ vs.drop n, ?_, fun u hu => ?_, fun j u hj => ?_, fun b hb => ?_⟩
           · rcases List.mem_append.1 hc with hc | hc
             · exact huy c (List.mem_of_mem_take hc)
             · exact hux c (List.mem_of_mem_drop hc)
           · rw [hlen']
             refine ⟨by simp [hvl]; omega, .inr ⟨gb, cap, _, hv, b1, setRow_heap w gb cur _ e' _ b2, b3, b4, ?_, ?_⟩⟩
             · simp; omega
             · rw [← b6, Nat.mul_one]
               have h1 : ((zIb n).map cv).length = n := hcl
               rw [List.take_append]
               rw [h1, List.take_of_length_le (by rw [h1]; exact hn1), List.drop_take]
           · rcases List.mem_append.1 hu with hu | hu
             · obtain ⟨j, hj, rfl⟩ := List.mem_map.1 hu
               exact (hcv j (by have := List.mem_range.1 hj; omega)).2.1
             · exact hone u (List.mem_of_mem_drop hu)
           · rw [flat_append] at hj
             obtain ⟨t1, -⟩ := flat_take huy n hn2
             obtain ⟨-, t2⟩ := flat_take hux n hn1
             rw [t1, t2, Nat.mul_one] at hj
             have hfy := flat_length huy
             have hfx := flat_length hux
             have hty : ((flat ys).take n).length = n := by rw [List.length_take]; omega
             rw [zIa]
             rcases zMa j n with hjn | hjn
             · rw [zOa (by omega), zSa, if_pos hjn] at hj
               rw [zOa (by omega)]
               have := (hcv j (by omega)).2.2 u hj
               simp only [List.getElem?_map, List.getElem?_range hjn, Option.map_some, zXa]
               exact this.keep hkp
             · rw [zNa (by omega), hty, zUa] at hj
               rw [zNa (by omega), hcl, zUa]
               rw [show n + (j - n) = j by omega] at hj ⊢
               have := (hrep j u hj).keep hkp
               simpa [zIa] using this
           · rw [show tmOf a k = _ from hv] at hb
             simp only [Value.ownBlock, Option.some.injEq] at hb
             subst hb
             simp [hp0]
         have r2 := r.setOwn hsk hpb hown hkp
         refine aft_world r2 hN hd (v := goInt n) (hex _ _ ?_) (slotRep_of_rep (x := .v (.int .i64 (n : Nat))) rfl (.v rfl)) (fun b hb => by cases hb) hK
         rw [hyv2, hx, show tmOf a k = _ from hv]
         exact hrun
   · exact hK.elim
 · exact hK.elim
theorem sound_buiX {N : Nat} {b : Builtin} {ts : Array TypeId} {os : Array Operand} (ho : o.op = .call { callee := .builtin b, args := os, argTypes := ts }) (r : R H w0 g0 s h g a w) (hN : a.tmps.size = N) (hd : ∀ d, o.dst = some d → d < N)
   (hK : awpBui P b ts.toList ts os.toList s h K) : o.wp P a w (Aft N H w0 g0 o K) Q := by
 unfold awpBui at hK
 split at hK
 · split at hK
   · rename_i x y t tx hos hts
     exact sound_append ho hos hts r hN hd hK
   · exact hK.elim
 · split at hK
   · rename_i x y t tx hos hts
     exact sound_copy ho hos hts r hN hd hK
   · exact hK.elim
 · split at hK
   · rename_i hos hts
     exact sound_delete ho hos hts r hN hd hK
   · exact hK.elim
 · split at hK
   · rename_i hos hts
     exact sound_clearX ho hos hts r hN hd hK
   · exact hK.elim
 · exact sound_builtin ho r hN hd hK
end
end Go.Vm
namespace Go.Vm
open Go.RowKit
section
variable {P : Program} {H : Hst} {w0 w w' : World} {g0 g g' gg : Gh} {s : Slots} {h h' : Heap} {a : Act} {o : Oper} {K : AV → Slots → Heap → Prop} {Q : Exit → Act → World → Prop}
theorem Cells.refl (w : World) (g : Gh) : Cells w g w := fun _ _ _ _ h => h
theorem Keeps.cells (k : Keeps w g w' g') : Cells w g w' := k.cell
theorem Cells.after {w1 : World} {g1 : Gh} (k : Keeps w1 g1 w g) (c : Cells w g w') : Cells w1 g1 w' := fun b j v hj hv => c b j v (Nat.lt_of_lt_of_le hj (k.pub b)) (k.cell b j v hj hv)
theorem R.rebase (r : R H w0 g0 s h g a w) : R ⟨w, g⟩ w0 g0 s h g a w :=
 ⟨r.defers, r.slots, r.apart, r.sep, r.heap, r.frame, r.n0, r.loc0, r.old, r.loc1, r.fresh, r.laid, Keeps.refl w g⟩
theorem R.back {H' : Hst} (r : R H' w0 g0 s h g a w) (k : Keeps H.w H.g H'.w H'.g) : R H w0 g0 s h g a w :=
 ⟨r.defers, r.slots, r.apart, r.sep, r.heap, r.frame, r.n0, r.loc0, r.old, r.loc1, r.fresh, r.laid, k.trans r.kept⟩
theorem aft_valueS {N : Nat} {x : AV} {v : Value} (r : R H w0 g0 s h g a w) (hN : a.tmps.size = N) (hd : ∀ d, o.dst = some d → d < N)
   (hrun : ∀ w', Cells w g w' → (execOp a.eval o).run P w' = .ok (.value v) w') (hx : Rep w g x v) (hK : K x s h) : Pw P o a w g (Aft N H w0 g0 o K) := by
 refine ⟨v, hrun, x, s, h, g, hK, ?_, by rw [size_put]; exact hN⟩
 cases ho : o.dst with
 | none => exact r
 | some d => exact r.put_rep (by rw [hN]; exact hd d ho) hx
theorem load_cellsS {t : TypeId} {cs : List AV} {b off : Nat} {vs : Nat → Value} {KV : AV → Prop} {S : World → Prop}
   (hr : ∀ w', S w' → ∀ j u, cs[j]? = some u → w'.cell? ⟨b, off + j, none⟩ = some (vs j)) (ho : ∀ j u, cs[j]? = some u → (vs j).oneCell' = true) (hs : ∀ j u, cs[j]? = some u → Rep w g u (vs j))
   (hK : ofCells P t cs KV) : ∃ x v, (∀ w', S w' → (loadVar t ⟨b, off, none⟩).run P w' = .ok v w') ∧ Rep w g x v ∧ KV x := by
 unfold ofCells at hK
 split at hK
 · rename_i d n hu hn
   have hn' : ∃ i, P.info? t = some i ∧ i.size = n := by
     unfold szT at hn
     cases hi : P.info? t with
     | none => simp [hi] at hn
     | some i => simp [hi] at hn; exact ⟨i, rfl, hn⟩
   obtain ⟨i, hi, rfl⟩ := hn'
   have agg : i.size ≤ cs.length ∧ KV (.agg (cs.take i.size)) → (∀ w', (isAgg t).run P w' = .ok true w') → ∃ x v, (∀ w', S w' → (loadVar t ⟨b, off, none⟩).run P w' = .ok v w') ∧ Rep w g x v ∧ KV x := by
     rintro ⟨hl, hK⟩ ha
     refine ⟨_, .agg ((zIb i.size).map fun j => vs (0 + j)).toArray, fun w' hw' => ?_, ?_, hK⟩
     · have hlc := run_loadCells_of (P := P) (w := w') (b := b) (o := off) (vs := vs) i.size 0 #[] (fun j hj => by
         simpa using hr w' hw' j _ (zLa (by omega)))
       simp only [loadVar, Sem.run_bind, ha w', Result.andThen_ok, if_true, run_sizeOf hi, loadCells, hlc]
       simp
     · refine .agg (by simp; omega) (fun j hj => ?_) (fun j u hu => ?_)
       · simp at hj
         have hj' : j < cs.length := by omega
         have := ho j _ (zLa hj')
         simpa [Array.getD, hj] using this
       · rw [zSa] at hu
         split at hu
         · rename_i hj
           simpa [Array.getD, hj] using hs j u hu
         · cases hu
   split at hK
   · exact agg hK (fun w' => by simp [isAgg, run_underlying hu])
   · exact agg hK (fun w' => by simp [isAgg, run_underlying hu])
   · rename_i h1 h2
     have ha : ∀ w', (isAgg t).run P w' = .ok false w' := fun w' => by
       unfold isAgg
       simp only [Sem.run_bind, run_underlying hu, Result.andThen_ok]
       rfl
     cases cs with
     | nil => exact absurd hK.1 (by simp)
     | cons c cs =>
       refine ⟨val c, vs 0, fun w' hw' => ?_, ?_, hK.2 c rfl⟩
       · have h0 := hr w' hw' 0 c rfl
         simp only [Nat.add_zero] at h0
         simp [loadVar, ha w', load, Sem.run, h0]
       · have := hs 0 c rfl
         cases c <;> first | exact this | exact .any _
 · exact hK.elim
theorem sound_loadP {N : Nat} {t : TypeId} {p : Operand} (ho : o.op = .load t p) (r : R H w0 g0 s h g a w) (hN : a.tmps.size = N) (hd : ∀ d, o.dst = some d → d < N)
   (he : eptrA (mv s p)) (hK : atPlace s h (mv s p) fun cs => ofCells P t cs fun v => K v s h) : Pw P o a w g (Aft N H w0 g0 o K) := by
 have hm := (r.mv p).1
 generalize mv s p = x at he hK hm
 cases x with
 | eptr cs =>
   have hm' : Rep w g (.eptr cs) (a.eval p) := hm
   generalize hv : a.eval p = v at hm'
   cases hm' with
   | @eptr _ b off vs hr hs =>
     obtain ⟨y, u, h1, h2, h3⟩ := load_cellsS (S := Cells w g) (fun w' hw' j u hu => hw' _ _ _ (hr j u hu).2.1 (hr j u hu).1) (fun j u hu => (hr j u hu).2.2) hs (show ofCells P t cs fun v => K v s h from hK)
     exact aft_valueS r hN hd (fun w' hw' => by simp [execOp, ho, hv, Instr.loadAt, Instr.sureAddr, h1 w' hw']) h2 h3
 | _ => exact he.elim
theorem sound_strOfP {N : Nat} {t t' : TypeId} {x : Operand} (ho : o.op = .convert t t' x) (r : R H w0 g0 s h g a w) (hN : a.tmps.size = N) (hd : ∀ d, o.dst = some d → d < N)
   (hu : P.underlying t' = some .string) (he : slA (ev s x)) (hK : awpStrOf P t (look s (ev s x)) fun v => K v s h) : Pw P o a w g (Aft N H w0 g0 o K) := by
 have hm := r.eval x
 generalize ev s x = y at he hK hm
 cases y with
 | sl sz xs =>
   have px : Rep w g (.sl sz xs) (a.eval x) := hm
   have hK' : awpStrOf P t (.sl sz xs) fun v => K v s h := hK
   obtain ⟨rfl, hb, l, rfl, hK'⟩ := hK'
   obtain ⟨e, h1, h2⟩ := bytesT_spec hb
   have fin : ∀ b : ByteArray, (∀ w', Cells w g w' → (convert t t' (a.eval x)).run P w' = .ok (.string b) w') → K (.v (.string b)) s h → Pw P o a w g (Aft N H w0 g0 o K) := fun b hrun hk =>
     aft_valueS r hN hd (fun w' hw' => by simp only [execOp, ho, Sem.run_bind, hrun w' hw', Result.andThen_ok]; rfl) (.v rfl) hk
   refine fin _ (fun w' hw' => ?_) hK'
   generalize a.eval x = v at px
   have hmap : ∀ l : List UInt8, strOfNums (l.map fun b => (b.toNat : Int)) = ⟨l.toArray⟩ := fun l => by
     simp [strOfNums, Function.comp_def]
   generalize hys : l.map encB = ys at px
   cases px with
   | nil =>
     have : l = [] := by simpa using hys
     subst this
     exact run_convert_bytes_nil w' t e h1 h2 0 0 t' hu
   | empty _ ad c hc =>
     have : l = [] := by simpa using hys
     subst this
     rw [run_convert_bytes_string w' t t' e _ 0 c h1 h2 hu]
     have := run_bytesToString (P := P) w' ad 0 c [] (by simpa using run_loadCells_list (P := P) w' ad [] (by simp))
     rw [this]; rfl
   | @sl _ _ b off c vs hc hm hsz hu' hr hs =>
     subst hys
     have hl : (l.map encB).length = l.length := by simp
     rw [hl] at hc ⊢
     have := run_convert_bytes_arg w' t e h1 h2 b off l.length c (l.map fun b => (b.toNat : Int)) (by simp) (fun i hi => by
       have hj : (flat (l.map encB))[i]? = some (encB l[i]) := by rw [flat_enc]; simp [hi]
       rw [hw' _ _ _ (hr i _ hj).2.1 (hr i _ hj).1]
       have := (rep_v (hs i _ hj)).1
       rw [this]; simp [hi]) t' hu
     rw [hmap] at this
     exact this
 | _ => exact he.elim
theorem box_publish (r : R H w0 g0 s h g a w) {t : Nat} {cs : List AV} (he : s t = .box cs) : ∃ g', R H w0 g0 (set s t (.eptr cs)) h g' a w ∧ g'.n = g.n := by
 have hs := r.slots t
 rw [he] at hs
 obtain ⟨gb, hv, hB, vs, e, a1, a2, a3, a4, a5⟩ := hs
 have hv' : tmOf a t = .pointer (some ⟨gb, 0, none⟩) := hv
 have hb : privB (s t) (tmOf a t) = some gb := by rw [he, hv']; rfl
 have hlt : gb < w.heap.size := lt_of_heap a1
 have hk := keeps_raise w g gb cs.length
 have hpub : (raise g gb cs.length).pub gb = cs.length := by simp [raise, a3]
 have hrest : ∀ i, i ≠ t → ∀ b, privB (s i) (tmOf a i) = some b → w.heap[b]? = w.heap[b]? ∧ (raise g gb cs.length).pub b = g.pub b := fun i hi b hb' =>
   ⟨rfl, raise_other fun e => hi (r.apart i t gb (e ▸ hb') hb)⟩
 have e1 : ∀ i b, privB (set s t (.eptr cs) i) (tmOf a i) = some b → privB (s i) (tmOf a i) = some b := fun i b hi => by
   unfold set at hi; split at hi
   · simp [privB] at hi
   · exact hi
 refine ⟨raise g gb cs.length, ⟨r.defers, fun i => ?_, fun i j b hi hj => r.apart i j b (e1 i b hi) (e1 j b hj), fun i b hi => r.sep i b (e1 i b hi), ?_, r.frame, r.n0, r.loc0, fun b hb' => ?_, r.loc1, fun b hb' => ?_, fun i cs hi => (r.laid i cs hi).keep hk, r.kept.trans hk⟩, rfl⟩
 · by_cases hi : i = t
   · subst hi
     simp only [set, if_true]
     show Rep w _ (.eptr cs) (a.tmps.getD i undef)
     rw [hv]
     refine .eptr (fun j => vs.getD j undef) (fun j u hu => ?_) (fun j u hu => (a5 j u hu).keep hk)
     have hj : j < cs.length := by
       rcases zMa j cs.length with h' | h'
       · exact h'
       · simp [zJa h'] at hu
     refine ⟨?_, by rw [hpub]; omega, a4 j (by omega)⟩
     rw [zKb, cell_of_row w gb j vs e (0, 0) a1]
     simp [Array.getD, show j < vs.size by omega]
   · simp only [set, hi, if_false]
     exact (r.slots i).keepAt hk (hrest i hi)
 · refine ⟨r.heap.n, r.heap.lt, r.heap.inj, fun i o ho => (r.heap.obj i o ho).keepAt hk ⟨rfl, raise_other ?_⟩⟩
   have hi : i < g.n := by
     rw [← r.heap.n]
     rcases zMa i h.length with h' | h'
     · exact h'
     · simp [zJa h'] at ho
   exact r.sep t gb hb i hi
 · rw [raise_other (by omega)]; exact r.old b hb'
 · rw [raise_other (by omega)]; exact r.fresh b hb'
theorem R.drop_priv (r : R H w0 g0 s h g a w) (t : Nat) {x : AV} (hx : Rep w g x (tmOf a t)) : R H w0 g0 (set s t x) h g a w := by
 have e1 : ∀ i b, privB (set s t x i) (tmOf a i) = some b → privB (s i) (tmOf a i) = some b := fun i b hi => by
   unfold set at hi; split at hi
   · rw [privB_shared (rep_shared hx)] at hi; cases hi
   · exact hi
 refine ⟨r.defers, fun i => ?_, fun i j b hi hj => r.apart i j b (e1 i b hi) (e1 j b hj), fun i b hi => r.sep i b (e1 i b hi), r.heap, r.frame, r.n0, r.loc0, r.old, r.loc1, r.fresh, r.laid, r.kept⟩
 unfold set; split
 · rename_i hi; subst hi; exact slotRep_of_rep (rep_shared hx) hx
 · exact r.slots i
theorem R.pubs : ∀ (ks : List Nat) {s : Slots} {g : Gh}, R H w0 g0 s h g a w → ∃ g', R H w0 g0 (pubs s ks) h g' a w
 | [], s, g, r => ⟨g, r⟩
 | k :: ks, s, g, r => by
   unfold Vm.pubs
   have : ∃ g', R H w0 g0 (pub1 s k (s k)) h g' a w := by
     unfold pub1
     split
     · rename_i cs he
       obtain ⟨g', r', -⟩ := box_publish r he
       exact ⟨g', r'⟩
     · rename_i m e sz xs he
       obtain ⟨g', r', k', hx, -⟩ := own_publish r he
       refine ⟨g', ?_⟩
       have := r'.drop_priv k hx
       have e2 : set (set s k (.own false e sz xs)) k (.sl sz xs) = set s k (.sl sz xs) := by
         funext i; unfold set; split <;> simp_all
       rw [e2] at this
       exact this
     · exact ⟨g, r⟩
   obtain ⟨g', r'⟩ := this
   exact R.pubs ks r'
end
end Go.Vm
namespace Go.Vm
open Go.RowKit
theorem Rep.drop {w : World} {g : Gh} {x : AV} {v : Value} (h : Rep w g x v) : ∀ {w' : World} {g' : Gh} {v' : Value}, Rep w' g' x v' → Rep w' { g' with n := g.n } x v' := by
 induction h with
 | v h => intro w' g' v' h'; cases h' with | v h => exact .v h
 | nil sz =>
   intro w' g' v' h'
   generalize hx : ([] : List AV) = xs at h'
   cases h' with
   | nil => exact .nil sz
   | empty _ a c hc => exact .empty sz a c hc
   | sl vs hc hm hsz hu hr hs => subst hx; exact .sl vs hc hm hsz hu hr fun j u hu => by simp [flat] at hu
 | empty sz a c hc =>
   intro w' g' v' h'
   generalize hx : ([] : List AV) = xs at h'
   cases h' with
   | nil => exact .nil sz
   | empty _ a' c' hc' => exact .empty sz a' c' hc'
   | sl vs hc hm hsz hu hr hs => subst hx; exact .sl vs hc hm hsz hu hr fun j u hu => by simp [flat] at hu
 | sl vs hc hm hsz hu hr hs ih =>
   intro w' g' v' h'
   cases h' with
   | nil => exact .nil _
   | empty _ a' c' hc' => exact .empty _ a' c' hc'
   | sl vs hc hm hsz hu hr hs' => exact .sl vs hc hm hsz hu hr fun j u hj => ih j u hj (hs' j u hj)
 | agg hl h1 hs ih => intro w' g' v' h'; cases h' with | agg hl h1 hs' => exact .agg hl h1 fun j u hj => ih j u hj (hs' j u hj)
 | tup hl hs ih => intro w' g' v' h'; cases h' with | tup hl hs' => exact .tup hl fun j u hj => ih j u hj (hs' j u hj)
 | eptr vs hr hs ih => intro w' g' v' h'; cases h' with | eptr vs hr hs' => exact .eptr vs hr fun j u hj => ih j u hj (hs' j u hj)
 | ptr id off h => intro w' g' v' h'; cases h' with | ptr => exact .ptr id off h
 | mp id h => intro w' g' v' h'; cases h' with | mp => exact .mp id h
 | clo hl hs ih => intro w' g' v' h'; cases h' with | clo hl hs' => exact .clo hl fun j u hj => ih j u hj (hs' j u hj)
 | osl id off n c h hc hm => intro w' g' v' h'; cases h' with | osl => exact .osl id off n c h hc hm
 | any v => intro w' g' v' h'; exact .any _
theorem OwnRep.drop {w w' : World} {g g' : Gh} {B e sz : Nat} {m : Bool} {xs : List AV} {v v' : Value} (h : OwnRep w g B m e sz xs v) (h' : OwnRep w' g' B m e sz xs v') : OwnRep w' { g' with n := g.n } B m e sz xs v' := by
 obtain ⟨-, -, vs0, -, -, h5, -⟩ := h
 obtain ⟨k1, k2, vs, k3, k4, k5, k6⟩ := h'
 exact ⟨k1, k2, vs, k3, k4, fun j u hu => (h5 j u hu).drop (k5 j u hu), k6⟩
theorem RowAt.drop {w w' : World} {g g' : Gh} {cs : List AV} {b b' : Nat} (h : RowAt w g cs b) (h' : RowAt w' g' cs b') : RowAt w' { g' with n := g.n } cs b' := by
 obtain ⟨vs0, e0, -, -, -, -, h5⟩ := h
 obtain ⟨vs, e, k1, k2, k3, k4, k5⟩ := h'
 exact ⟨vs, e, k1, k2, k3, k4, fun j u hu => (h5 j u hu).drop (k5 j u hu)⟩
theorem slotRep.drop {w w' : World} {g g' : Gh} {B : Nat} {tm : Nat → Value} {x : AV} {v : Value} (h : slotRep w g B tm x v) (h' : slotRep w' g' B tm x v) : slotRep w' { g' with n := g.n } B tm x v := by
 cases x with
 | own m e sz xs => exact OwnRep.drop h h'
 | box cs =>
   obtain ⟨b0, -, -, h3⟩ := h
   obtain ⟨b, k1, k2, k3⟩ := h'
   exact ⟨b, k1, k2, h3.drop k3⟩
 | iter id since seen c0 =>
   obtain ⟨b0, -, -, -, -, h5, -⟩ := h
   obtain ⟨b, k1, k2, k3, k4, k5, k6⟩ := h'
   exact ⟨b, k1, k2, k3, k4, h5, k6⟩
 | alias k => exact h'
 | part k i => exact h'
 | otup i m e sz xs rest =>
   obtain ⟨us0, hv0, -, h2, h3⟩ := h
   obtain ⟨us, hv, k1, k2, k3⟩ := h'
   exact ⟨us, hv, k1, fun j u hu => (h2 j u hu).drop (k2 j u hu), h3.drop k3⟩
 | place k o => exact h'
 | elt k sz i o => exact h'
 | _ => exact Rep.drop h h'
theorem ObjRep.drop {w w' : World} {g g' : Gh} {o : AObj} {b b' : Nat} (h : ObjRep w g o b) (h' : ObjRep w' g' o b') : ObjRep w' { g' with n := g.n } o b' := by
 cases o with
 | cells cs => exact RowAt.drop h h'
 | row e m cs =>
   obtain ⟨vs0, -, -, -, -, -, h5⟩ := h
   obtain ⟨vs, k1, k2, k3, k4, k5, k6⟩ := h'
   exact ⟨vs, k1, k2, k3, k4, k5, fun j u hu => (h5 j u hu).drop (k6 j u hu)⟩
 | map es clock =>
   obtain ⟨-, en0, -, -, h3⟩ := h
   obtain ⟨k0, en, k1, k2, k3⟩ := h'
   refine ⟨k0, en, k1, k2, fun j u hu => ?_⟩
   obtain ⟨q0, -, -, -, -, p5⟩ := h3 j u hu
   obtain ⟨q, q1, q2, q3, q4, q5⟩ := k3 j u hu
   exact ⟨q, q1, q2, q3, q4, p5.drop q5⟩
section
variable {P : Program} {H : Hst} {w0 w w' : World} {g0 g g' : Gh} {s : Slots} {h h' : Heap} {a : Act} {o : Oper} {K : AV → Slots → Heap → Prop} {Q : Exit → Act → World → Prop}
theorem R.regain (r : R H w0 g0 s h g a w) {k : Nat} {x : AV} (hx : slotRep w g w0.heap.size (tmOf a) x (tmOf a k)) (hp : ∀ b, privB x (tmOf a k) = some b → (∀ i, i ≠ k → privB (s i) (tmOf a i) ≠ some b) ∧ ∀ j, j < g.n → g.loc j ≠ b) :
   R H w0 g0 (Vm.set s k x) h g a w := by
 have hpr : ∀ i, privB (Vm.set s k x i) (tmOf a i) = if i = k then privB x (tmOf a k) else privB (s i) (tmOf a i) := fun i => by
   unfold Vm.set; split
   · rename_i e; subst e; rfl
   · rfl
 refine ⟨r.defers, fun i => ?_, fun i j b hi hj => ?_, fun i b hi => ?_, r.heap, r.frame, r.n0, r.loc0, r.old, r.loc1, r.fresh, r.laid, r.kept⟩
 · by_cases hi : i = k
   · subst hi; simp only [Vm.set, if_true]; exact hx
   · simp only [Vm.set, hi, if_false]; exact r.slots i
 · have hi' : privB (Vm.set s k x i) (tmOf a i) = some b := hi
   have hj' : privB (Vm.set s k x j) (tmOf a j) = some b := hj
   rw [hpr] at hi' hj'
   by_cases e : i = k <;> by_cases e' : j = k
   · omega
   · rw [if_pos e] at hi'; rw [if_neg e'] at hj'; exact absurd hj' ((hp b hi').1 j e')
   · rw [if_neg e] at hi'; rw [if_pos e'] at hj'; exact absurd hi' ((hp b hj').1 i e)
   · rw [if_neg e] at hi'; rw [if_neg e'] at hj'; exact r.apart i j b hi' hj'
 · have hi' : privB (Vm.set s k x i) (tmOf a i) = some b := hi
   rw [hpr] at hi'
   by_cases e : i = k
   · rw [if_pos e] at hi'; exact (hp b hi').2
   · rw [if_neg e] at hi'; exact r.sep i b hi'
def gAdd (g : Gh) (b : Nat) : Gh := { g with n := g.n + 1, loc := fun i => if i = g.n then b else g.loc i }
theorem R.addRow (r : R H w0 g0 s h g a w) {b e m : Nat} {cs : List AV} (hrow : RowE w g e m cs b) (hB : w0.heap.size ≤ b) (hlt : b < w.heap.size) (h1 : ∀ i, privB (s i) (tmOf a i) ≠ some b) (h2 : ∀ k, k < g.n → g.loc k ≠ b) :
   R H w0 g0 s (h ++ [.row e m cs]) (gAdd g b) a w ∧ Keeps w g w (gAdd g b) := by
 have hn := r.heap.n
 have hk : Keeps w g w (gAdd g b) := ⟨fun _ => zVa _, fun _ _ _ _ h => h, Nat.le_succ _, fun i hi => by simp only [gAdd]; rw [if_neg (by omega)]⟩
 refine ⟨⟨r.defers, fun i => (r.slots i).keepAt hk fun b' _ => ⟨rfl, rfl⟩, r.apart, fun i b' hi k hk' => ?_, ?_, r.frame, Nat.le_trans r.n0 (Nat.le_succ _), fun i hi => ?_, r.old, fun i hi h0 => ?_, r.fresh, fun i cs hi => (r.laid i cs hi).keep hk, r.kept.trans hk⟩, hk⟩
 · simp only [gAdd] at hk' ⊢
   split
   · intro e; exact h1 i (e ▸ hi)
   · exact r.sep i b' hi k (by omega)
 · refine ⟨by simp [gAdd, hn], fun i hi => ?_, fun i j hi hj e => ?_, fun i o' ho => ?_⟩
   · simp only [gAdd] at hi ⊢
     split
     · exact hlt
     · exact r.heap.lt i (by omega)
   · simp only [gAdd] at hi hj e
     split at e <;> split at e
     · omega
     · exact absurd e.symm (h2 j (by omega))
     · exact absurd e (h2 i (by omega))
     · exact r.heap.inj i j (by omega) (by omega) e
   · simp only [gAdd]
     rcases zMa i h.length with hi | hi
     · rw [zOa hi] at ho
       rw [if_neg (by omega)]
       exact (r.heap.obj i o' ho).keepAt hk ⟨rfl, rfl⟩
     · rw [zNa hi] at ho
       have : i - h.length = 0 := by
         rcases Nat.eq_zero_or_pos (i - h.length) with h' | h'
         · exact h'
         · rw [zJa (by simp; omega)] at ho; cases ho
       rw [this] at ho
       simp only [zKa, Option.some.injEq] at ho
       subst ho
       rw [if_pos (by omega)]
       obtain ⟨vs, a1, a2, a3, a4, a5, a6⟩ := hrow
       exact ⟨vs, a1, a2, a3, a4, a5, fun j u hu => (a6 j u hu).keep hk⟩
 · simp only [gAdd]; rw [if_neg (by have := r.n0; omega)]; exact r.loc0 i hi
 · simp only [gAdd] at hi ⊢
   split
   · exact hB
   · exact r.loc1 i (by omega) h0
theorem R.dropRow {w1 : World} {g1 : Gh} {h1 : Heap} {x : AObj} (r0 : R H w0 g0 s h g a w) (r : R H w0 g0 s (h ++ [x]) g' a w') (hk : Keeps w g w' g') : R H w0 g0 s h { g' with n := g.n } a w' := by
 have hn := r0.heap.n
 have hn' := r.heap.n
 rw [List.length_append] at hn'
 simp only [zLb, List.length_nil] at hn'
 have hkeep : Keeps H.w H.g w' { g' with n := g.n } := ⟨r.kept.pub, r.kept.cell, r0.kept.n, fun i hi => r.kept.loc i hi⟩
 refine ⟨r.defers, fun i => (r0.slots i).drop (r.slots i), r.apart, fun i b hi k hk' => r.sep i b hi k (by simp only [] at hk'; omega), ?_, r.frame, r0.n0, r.loc0, r.old, fun i hi h0 => r.loc1 i (by simp only [] at hi; omega) h0, r.fresh, fun i cs hi => (r0.laid i cs hi).drop (r.laid i cs hi), hkeep⟩
 refine ⟨hn, fun i hi => r.heap.lt i (by simp only [] at hi; omega), fun i j hi hj e => r.heap.inj i j (by simp only [] at hi; omega) (by simp only [] at hj; omega) e, fun i o ho => ?_⟩
 have hi : i < h.length := by
   rcases zMa i h.length with h' | h'
   · exact h'
   · rw [zJa h'] at ho; cases ho
 exact (r0.heap.obj i o ho).drop (r.heap.obj i o (by rw [zOa hi]; exact ho))
theorem ownSlot_spec {s2 : Slots} {h2 : Heap} {g1 : Gh} (r : R H w0 g0 s2 h2 g1 a w) {x : Operand} {k : Nat} (hk : ownSlot s2 x = some k) : a.eval x = tmOf a k := by
 unfold ownSlot at hk
 split at hk
 · rename_i t
   split at hk
   · cases hk; rfl
   · rename_i k' he
     cases hk
     have := r.slots t
     rw [he] at this
     exact this
   · cases hk
 · cases hk
theorem sound_callI {N : Nat} {T : FuncId → Option Spec} {f : FuncId} {caps : List AV} {x : Operand} {os : Array Operand} {ts : Array TypeId} (hT : ∀ f S, T f = some S → Does P f S)
   (ho : o.op = .call { callee := .value x, args := os, argTypes := ts }) (r : R H w0 g0 s h g a w) (hN : a.tmps.size = N) (hd : ∀ d, o.dst = some d → d < N)
   (hf : ev s x = .clo f caps) (hK : awpCallI T f caps os.toList s h K) : o.wp P a w (Aft N H w0 g0 o K) Q := by
 have hx := r.eval x
 rw [hf] at hx
 have hx' : Rep w g (.clo f caps) (a.eval x) := hx
 generalize hv : a.eval x = v at hx'
 cases hx' with
 | @clo _ _ cv hcl hcs =>
 unfold awpCallI at hK
 split at hK
 · rename_i S o0 rest hS hos
   have hcv : cv = #[] := Array.eq_empty_of_size_eq_zero (by simpa using hcl)
   subst hcv
   obtain ⟨⟨fn, hf1, hf2, hf3⟩, hdo⟩ := hT f S hS
   obtain ⟨g1, r1, k1, l1, p1⟩ := R.escs rest r
   generalize hE : Vm.escs s h rest = E at r1 l1 p1 hK
   obtain ⟨as, s2, h2⟩ := E
   simp only at r1 l1 p1 hK
   obtain ⟨htk, hsep⟩ := r1.tk o0
   have r3 := r1.le (le_tk s2 o0)
   unfold inCall at hK
   split at hK
   · rename_i e sz xs k0 hown hk0
     have hko := ownSlot_spec r1 hk0
     rw [hown] at htk hsep
     generalize hs3 : (Vm.tk s2 o0).2 = s3 at r3 hsep hK
     obtain ⟨hsz, hu, vs, hrow, h4, h5, h6⟩ := htk
     obtain ⟨hKn, hKb⟩ := hK
     have hargs : ((o0 :: rest).map a.eval).toArray ++ (#[] : Array Value) = ((o0 :: rest).map a.eval).toArray := by simp
     have hrun : (execOp a.eval o).run P w = .ok (.enter f ((o0 :: rest).map a.eval).toArray) w := by
       have hA : os.map a.eval = ((o0 :: rest).map a.eval).toArray := by apply Array.ext'; simp [hos]
       simp only [execOp, ho, resolve, Sem.run_bind, hA, hv, Deferred.ofValue]
       simp [invoke, run_callFunc hf1 hf2 hf3]
     unfold Oper.wp
     rw [hrun, Oper.upon]
     have hget : ∀ (y : AV) (g2 : Gh) (w2 : World), Rep w2 g2 y (a.eval o0) → (∀ j u, as[j]? = some u → Rep w2 g2 u ((rest.map a.eval).getD j undef)) → ∀ j u, (y :: as)[j]? = some u → Rep w2 g2 u (((o0 :: rest).map a.eval).toArray.getD j undef) := fun y g2 w2 h0 h1 j u hu => by
       cases j with
       | zero => simp only [zKa, Option.some.injEq] at hu; subst hu; simpa using h0
       | succ j =>
         simp only [zPa] at hu
         have := h1 j u hu
         simpa [Array.getD_eq_getD_getElem?, zIa] using this
     rcases hrow.2 with ⟨hnil, hx0⟩ | ⟨gb, cap, cur, hsl, b1, b2, b3, b4, b5, b6⟩
     · -- nil
       have hx0' : xs = [] := zRa hx0
       subst hx0'
       obtain ⟨Q0, hS0, hQ⟩ := hKn rfl
       refine (hdo _ _ Q0 hS0 w g1 ((o0 :: rest).map a.eval).toArray (by simp [l1]) (hget _ _ _ (by rw [hnil]; exact .v rfl) p1) r3.heap r3.fresh r3.laid).mono ?_
       rintro e' w' ⟨y, h', g', v', hq, rfl, hy, hh, hfr, hn, hl, hp, hl1, hfresh⟩
       obtain ⟨rfl, hin⟩ := hQ y h' hq
       have r4 := r3.called hfr hh hn hl hp hl1 hfresh
       have hnilOwn : ∀ v, v = Value.slice none 0 0 → OwnRep w' g' w0.heap.size true e sz [] v := fun v hv => by
         subst hv
         exact ⟨hsz, by simp, [], World.ownsRow_nil w' _ e sz, by simp, by simp [flat], fun b hb => by simp [Value.ownBlock] at hb⟩
       unfold inNil at hin
       split at hin
       · have hv' : v' = .slice none 0 0 := (rep_v hy).1
         refine ⟨_, _, _, g', hin, ?_, by rw [size_put]; exact hN⟩
         cases hdst : o.dst with
         | none => exact r4
         | some d => exact r4.put (by rw [hN]; exact hd d hdst) (hnilOwn v' hv') fun b hb => by rw [hv'] at hb; simp [privB, Value.ownBlock] at hb
       · refine ⟨_, _, _, g', hin, ?_, by rw [size_put]; exact hN⟩
         have r5 := r4.regain (k := k0) (x := .own true e sz []) (hnilOwn _ (hko.symm.trans hnil)) (fun b hb => by rw [← hko, hnil] at hb; simp [privB, Value.ownBlock] at hb)
         cases hdst : o.dst with
         | none => exact r5
         | some d => exact r5.put_rep (by rw [hN]; exact hd d hdst) hy
       · exact hin.elim
     · -- a block
       have hpriv : ∀ b, privB (.own true e sz xs) (a.eval o0) = some b → b = gb := fun b hb => by
         rw [hsl] at hb; simpa [privB, Value.ownBlock] using hb.symm
       have hpg : privB (.own true e sz xs) (a.eval o0) = some gb := by rw [hsl]; rfl
       obtain ⟨q1, q2⟩ := hsep gb hpg
       have hlt : gb < w.heap.size := lt_of_heap b2
       have hpub : g1.pub gb = 0 := by have := h6 gb (by rw [hsl]; rfl); simpa using this
       have hfl := flat_length hu
       have hrowE : RowE w g1 e (cap * sz) (flat xs) gb := by
         have hgd : ∀ j, j < (flat xs).length → cur.getD j undef = vs.getD j undef := fun j hj => by
           have hl := hrow.1
           have hj2 : j < vs.length := by omega
           have e1 : vs[j]? = cur.toList[j]? := by
             rw [← b6, zSa]; rw [if_pos (by omega)]
           have e2 : cur.getD j undef = (cur.toList[j]?).getD undef := by simp [Array.getD_eq_getD_getElem?]
           rw [e2, ← e1, zIa]
         refine ⟨cur, b2, b5, ?_, hpub, fun j hj => ?_, fun j u hj => ?_⟩
         · rw [hfl]; exact Nat.mul_le_mul_right _ b3
         · rw [hgd j hj]
           have hj2 : j < vs.length := by have := hrow.1; omega
           rw [zIa, zLa hj2]
           exact h4 _ (zWa _)
         · have hj2 : j < (flat xs).length := by
             rcases zMa j (flat xs).length with h' | h'
             · exact h'
             · rw [zJa h'] at hj; cases hj
           rw [hgd j hj2]
           exact h5 j u hj
       obtain ⟨rN, kN⟩ := r3.addRow hrowE b1 hlt q1 q2
       obtain ⟨Q0, hS0, hQ⟩ := hKb cap b3 b4
       have hosl : Rep w (gAdd g1 gb) (.osl h2.length 0 xs.length cap) (a.eval o0) := by
         have := Rep.osl (w := w) (g := gAdd g1 gb) h2.length 0 xs.length cap (by simp only [gAdd]; have := r3.heap.n; omega) b3 b4
         rw [hsl]
         have hl : (gAdd g1 gb).loc h2.length = gb := by simp only [gAdd]; rw [if_pos r3.heap.n]
         rw [hl] at this
         exact this
       refine (hdo _ _ Q0 hS0 w (gAdd g1 gb) ((o0 :: rest).map a.eval).toArray (by simp [l1]) (hget _ _ _ hosl fun j u hu => (p1 j u hu).keep kN) rN.heap rN.fresh rN.laid).mono ?_
       rintro e' w' ⟨y, h', g', v', hq, rfl, hy, hh, hfr, hn, hl, hp, hl1, hfresh⟩
       obtain ⟨cs, rfl, xs', hsub, hin⟩ := hQ y h' hq
       have rC := rN.called hfr hh hn hl hp hl1 hfresh
       have kC := hfr.keeps rN.heap rN.fresh hn hl hp
       have r4 := R.dropRow (w1 := w) (g1 := g1) (h1 := h2) r3 rC (kN.trans kC)
       have hm : h2.length < (gAdd g1 gb).n := by simp only [gAdd]; have := r3.heap.n; omega
       have hloc : g'.loc h2.length = gb := by
         rw [hl _ hm]; simp only [gAdd]; rw [if_pos r3.heap.n]
       have hob : RowE w' g' e (cap * sz) cs gb := by
         have : ObjRep w' g' (.row e (cap * sz) cs) (g'.loc h2.length) := hh.obj h2.length _ (by rw [zNa (zVa _)]; simp)
         rw [hloc] at this; exact this
       -- what is held again
       have back : ∀ n, n ≤ cap → xs'.length = n → cs.take (n * sz) = flat xs' → OwnRep w' { g' with n := g1.n } w0.heap.size true e sz xs' (.slice (some ⟨gb, 0, none⟩) n cap) := fun n hnc hxl hcs => by
         obtain ⟨cur', c1, c2, c3, c4, c5, c6⟩ := hob
         have hu' : ∀ x ∈ xs', x.cells.length = sz := fun x hx => hu x (hsub x hx)
         have hfl' : (flat xs').length = n * sz := by rw [flat_length hu', hxl]
         have hle : n * sz ≤ cs.length := by
           have : (cs.take (n * sz)).length = n * sz := by rw [hcs, hfl']
           rw [List.length_take] at this; omega
         have hcl2 : (cur'.toList.take (n * sz)).length = n * sz := by rw [List.length_take]; simp; omega
         refine ⟨hsz, hu', cur'.toList.take (n * sz), ?_, fun u hu2 => ?_, fun j u hj => ?_, fun b hb => ?_⟩
         · rw [hxl]
           exact ⟨hcl2, .inr ⟨gb, cap, cur', rfl, b1, c1, hnc, b4, c2, rfl⟩⟩
         · obtain ⟨j, hj, rfl⟩ := List.getElem_of_mem hu2
           have hj' : j < n * sz := by omega
           have := c5 j (by omega)
           rw [List.getElem_take]
           simpa [Array.getD, show j < cur'.size by omega] using this
         · have hj' : j < n * sz := by
             rw [← hfl']
             rcases zMa j (flat xs').length with h' | h'
             · exact h'
             · rw [zJa h'] at hj; cases hj
           have hcj : cs[j]? = some u := by
             rw [← hcs, zSa, if_pos hj'] at hj; exact hj
           have e1 : (cur'.toList.take (n * sz)).getD j undef = cur'.getD j undef := by
             rw [zIa, zSa, if_pos hj']; simp [Array.getD_eq_getD_getElem?]
           rw [e1]
           -- the element was there before
           have hmem : ∃ i : Nat, (flat xs)[i]? = some u := by
             have hu2 : u ∈ flat xs' := zQb hj
             simp only [flat, List.mem_flatMap] at hu2
             obtain ⟨x, hx, hux⟩ := hu2
             have : u ∈ flat xs := by simp only [flat, List.mem_flatMap]; exact ⟨x, hsub x hx, hux⟩
             exact zPb.1 this
           obtain ⟨i, hi⟩ := hmem
           exact (h5 i u hi).drop (c6 j u hcj)
         · simp only [Value.ownBlock, Option.some.injEq] at hb
           subst hb
           show g'.pub gb ≤ _
           rw [c4]; exact Nat.zero_le _
       have hsepd : ∀ k, k < ({ g' with n := g1.n } : Gh).n → ({ g' with n := g1.n } : Gh).loc k ≠ gb := fun k hk => by
         show g'.loc k ≠ gb
         have hk' : k < g1.n := hk
         rw [hl k (by simp only [gAdd]; omega)]
         simp only [gAdd]; rw [if_neg (by omega)]; exact q2 k hk'
       split at hin
       · rename_i i off n c'
         obtain ⟨rfl, rfl, rfl, hxl, hcs, hk⟩ := hin
         have hy' : Rep w' g' (.osl h2.length 0 n c') v' := hy
         have hv' : v' = .slice (some ⟨gb, 0, none⟩) n c' ∧ n ≤ c' := by
           cases hy' with | osl _ _ _ _ _ hc _ => rw [hloc]; exact ⟨rfl, hc⟩
         obtain ⟨hv', hnc⟩ := hv'
         refine ⟨_, _, _, { g' with n := g1.n }, hk, ?_, by rw [size_put]; exact hN⟩
         cases hdst : o.dst with
         | none => exact r4
         | some d =>
           refine r4.put (by rw [hN]; exact hd d hdst) (x := .own true e sz xs') (by rw [hv']; exact back n hnc hxl hcs) fun b hb => ?_
           have hbg : b = gb := by rw [hv'] at hb; simpa [privB, Value.ownBlock] using hb.symm
           subst hbg
           exact ⟨fun i _ => q1 i, hsepd⟩
       · obtain ⟨hxl, hcs, hk⟩ := hin
         refine ⟨_, _, _, { g' with n := g1.n }, hk, ?_, by rw [size_put]; exact hN⟩
         have hkv : tmOf a k0 = .slice (some ⟨gb, 0, none⟩) xs.length cap := hko.symm.trans hsl
         have r5 := r4.regain (k := k0) (x := .own true e sz xs') (by rw [hkv]; exact back xs.length b3 hxl hcs) (fun b hb => by
           have hbg : b = gb := by rw [hkv] at hb; simpa [privB, Value.ownBlock] using hb.symm
           subst hbg
           exact ⟨fun i _ => q1 i, hsepd⟩)
         cases hdst : o.dst with
         | none => exact r5
         | some d =>
           have hy' : Rep w' g' (.tup []) v' := hy
           exact r5.put_rep (by rw [hN]; exact hd d hdst) (by cases hy' with | tup hl2 hs2 => exact .tup hl2 fun j u hu => by simp at hu)
       · exact hin.elim
   · exact hK.elim
 · exact hK.elim
theorem R.rowOwn (r : R H w0 g0 s h g a w) {k j e sz : Nat} {xs : List AV} (hj : j = k ∨ s j = .alias k) (hk : s k = .own true e sz xs) (hne : xs ≠ []) :
   ∃ c gb, xs.length ≤ c ∧ c ≤ maxLen ∧ R H w0 g0 (Vm.set (Vm.set s k (.osl h.length 0 xs.length c)) j (.osl h.length 0 xs.length c)) (h ++ [.row e (c * sz) (flat xs)]) (gAdd g gb) a w := by
 have hsk := r.slots k
 have hap := r.apart k
 have hsp := r.sep k
 rw [hk] at hsk
 obtain ⟨hsz, hu, vs, hrow, h4, h5, h6⟩ := hsk
 rcases hrow.2 with ⟨hnil, hx0⟩ | ⟨gb, cap, cur, hsl, b1, b2, b3, b4, b5, b6⟩
 · exact absurd (zRa hx0) hne
 · have hpg : privB (s k) (a.tmps.getD k undef) = some gb := by rw [hk, hsl]; rfl
   have hlt : gb < w.heap.size := lt_of_heap b2
   have hpub : g.pub gb = 0 := by have := h6 gb (by rw [hsl]; rfl); simpa using this
   have hfl := flat_length hu
   have hrowE : RowE w g e (cap * sz) (flat xs) gb := by
     have hgd : ∀ j, j < (flat xs).length → cur.getD j undef = vs.getD j undef := fun j hj => by
       have hl := hrow.1
       have hj2 : j < vs.length := by omega
       have e1 : vs[j]? = cur.toList[j]? := by
         rw [← b6, zSa]; rw [if_pos (by omega)]
       have e2 : cur.getD j undef = (cur.toList[j]?).getD undef := by simp [Array.getD_eq_getD_getElem?]
       rw [e2, ← e1, zIa]
     refine ⟨cur, b2, b5, ?_, hpub, fun j hj => ?_, fun j u hj => ?_⟩
     · rw [hfl]; exact Nat.mul_le_mul_right _ b3
     · rw [hgd j hj]
       have hj2 : j < vs.length := by have := hrow.1; omega
       rw [zIa, zLa hj2]
       exact h4 _ (zWa _)
     · have hj2 : j < (flat xs).length := by
         rcases zMa j (flat xs).length with h' | h'
         · exact h'
         · rw [zJa h'] at hj; cases hj
       rw [hgd j hj2]
       exact h5 j u hj
   have r1 := r.regain (k := k) (x := .any) (Rep.any _) (fun b hb => by simp [privB] at hb)
   have hs1 : ∀ i, privB (Vm.set s k .any i) (tmOf a i) ≠ some gb := fun i hi => by
     unfold Vm.set at hi
     split at hi
     · simp [privB] at hi
     · rename_i hik
       exact hik (r.apart i k gb hi hpg)
   obtain ⟨r2, -⟩ := r1.addRow hrowE b1 hlt hs1 (r.sep k gb hpg)
   have hn := r.heap.n
   have hv : tmOf a k = .slice (some ⟨gb, 0, none⟩) xs.length cap := hsl
   have hosl : Rep w (gAdd g gb) (.osl h.length 0 xs.length cap) (tmOf a k) := by
     have := Rep.osl (w := w) (g := gAdd g gb) h.length 0 xs.length cap (by simp only [gAdd]; omega) b3 b4
     have hl : (gAdd g gb).loc h.length = gb := by simp only [gAdd]; rw [if_pos hn]
     rw [hl] at this
     rw [hv]
     exact this
   have r3 := r2.regain (k := k) (x := .osl h.length 0 xs.length cap) hosl (fun b hb => by simp [privB] at hb)
   have e1 : Vm.set (Vm.set s k .any) k (.osl h.length 0 xs.length cap) = Vm.set s k (.osl h.length 0 xs.length cap) := by
     funext i; unfold Vm.set; split <;> rfl
   rw [e1] at r3
   have hvj : tmOf a j = tmOf a k := by
     rcases hj with rfl | hj
     · rfl
     · have := r.slots j
       rw [hj] at this
       exact this
   have r4 := r3.regain (k := j) (x := .osl h.length 0 xs.length cap) (by rw [hvj]; exact hosl) (fun b hb => by simp [privB] at hb)
   exact ⟨cap, gb, b3, b4, r4⟩
theorem sound_callG {N : Nat} {T : FuncId → Option Spec} {f : FuncId} {caps : List AV} {x : Operand} {os : Array Operand} {ts : Array TypeId} (hT : ∀ f S, T f = some S → Does P f S)
   (ho : o.op = .call { callee := .value x, args := os, argTypes := ts }) (r : R H w0 g0 s h g a w) (hN : a.tmps.size = N) (hd : ∀ d, o.dst = some d → d < N)
   (hf : ev s x = .clo f caps) (hK : awpCallG T f caps os.toList s h K) : o.wp P a w (Aft N H w0 g0 o K) Q := by
 obtain ⟨k, j, hj, hK⟩ := hK
 unfold rowAt at hK
 split at hK
 · rename_i e sz xs hk
   obtain ⟨hne, hK⟩ := hK
   obtain ⟨c, gb, h1, h2, r2⟩ := r.rowOwn hj hk hne
   refine sound_call hT ho r2 hN hd ?_ (hK c h1 h2)
   cases x with
   | tmp t =>
     simp only [ev] at hf ⊢
     have htk : ¬ t = k := fun e => by rw [e, hk] at hf; cases hf
     have htj : ¬ t = j := fun e => by
       rcases hj with hj | hj
       · exact htk (e.trans hj)
       · rw [e, hj] at hf; cases hf
     unfold Vm.set
     rw [if_neg htj, if_neg htk]
     exact hf
   | _ => exact hf
 · exact hK.elim
theorem sound_callV {N : Nat} {T : FuncId → Option Spec} {x : Operand} {os : Array Operand} {ts : Array TypeId} (hT : ∀ f S, T f = some S → Does P f S)
   (ho : o.op = .call { callee := .value x, args := os, argTypes := ts }) (r : R H w0 g0 s h g a w) (hN : a.tmps.size = N) (hd : ∀ d, o.dst = some d → d < N)
   (hK : awpCallV T (ev s x) os.toList s h K) : o.wp P a w (Aft N H w0 g0 o K) Q := by
 unfold awpCallV at hK
 split at hK
 · rename_i f caps hf
   rcases hK with hK | hK | hK
   · exact sound_call hT ho r hN hd hf hK
   · exact sound_callI hT ho r hN hd hf hK
   · exact sound_callG hT ho r hN hd hf hK
 · exact hK.elim
end
end Go.Vm
namespace Go.Vm
open Go.RowKit
section
variable {P : Program} {H : Hst} {w0 : World} {g0 : Gh} {N : Nat} {T : FuncId → Option Spec}
theorem sound_op {o : Oper} {s : Slots} {h : Heap} {g : Gh} {a : Act} {w : World} {K : AV → Slots → Heap → Prop} {Q : Exit → Act → World → Prop} (hT : ∀ f S, T f = some S → Does P f S)
   (r : R H w0 g0 s h g a w) (hN : a.tmps.size = N) (hd : ∀ d, o.dst = some d → d < N) (hK : awpOp P T o.op s h K) : o.wp P a w (Aft N H w0 g0 o K) Q := by
 unfold awpOp at hK
 split at hK
 · rename_i ho; exact sound_move ho r hN hd hK
 · rename_i ho; exact sound_assign ho r hN hd hK
 · rename_i ho
   unfold condA at hK
   split at hK
   · rename_i hc; exact sound_pick ho r hN hd hc hK.1 hK.2
   · exact hK.elim
 · rename_i ho; exact wp_of_pw (sound_binXP ho r hN hd hK)
 · rename_i ho; exact sound_cvX ho r hN hd hK
 · rename_i ho; exact sound_buildSlice ho r hN hd hK
 · rename_i ho; exact wp_of_pw (sound_idxXP ho r hN hd hK)
 · rename_i ho; exact wp_of_pw (sound_indexP ho r hN hd hK)
 · rename_i ho; exact sound_load ho r hN hd hK
 · rename_i ho; exact sound_nilCheck ho r hN hd hK
 · rename_i ho; exact sound_fieldAddr ho r hN hd hK
 · rename_i ho; exact sound_field ho r hN hd hK
 · rename_i ho; exact sound_box ho r hN hd hK
 · rename_i ho; exact sound_alloc ho r hN hd hK
 · rename_i ho; exact sound_store ho r hN hd hK
 · rename_i ho; exact sound_makeFunc ho r hN hd hK
 · rename_i ho; exact sound_un ho r hN hd hK
 · rename_i ho; exact sound_slice ho r hN hd hK
 · rename_i ho; exact sound_make ho r hN hd hK
 · rename_i ho
   exact sound_extractS ho r hN hd hK
 · rename_i ho; exact sound_callV hT ho r hN hd hK
 · rename_i ho; exact sound_buiX ho r hN hd hK
 · rename_i ho; exact sound_makeMap ho r hN hd hK
 · rename_i ho; exact sound_lookup ho r hN hd hK
 · rename_i ho; exact sound_update (.inl ho) r hN hd hK
 · rename_i ho; exact sound_update (.inr ho) r hN hd hK
 · rename_i ho; exact sound_range ho r hN hd hK
 · rename_i ho; exact sound_next ho r hN hd hK
 · rename_i ho; exact sound_entry ho r hN hd hK
 · rename_i ho; exact sound_build ho r hN hd hK
 · exact hK.elim
theorem R.known {s : Slots} {h : Heap} {g : Gh} {a : Act} {w : World} (r : R H w0 g0 s h g a w) {d : Nat} {b : Bool} (hs : s d = .v (.bool b)) : R H w0 g0 (set s d (.v (.bool b))) h g a w := by
 have : set s d (.v (.bool b)) = s := by funext i; unfold set; split <;> simp_all
 rw [this]; exact r
def Done (N : Nat) (H : Hst) (w0 : World) (g0 : Gh) (K : Slots → Heap → Prop) (a : Act) (w : World) : Prop := ∃ s h g, K s h ∧ R H w0 g0 s h g a w ∧ a.tmps.size = N
theorem undef_rep (w : World) (g : Gh) : Rep w g (.tup []) undef := .tup rfl (fun j u hu => by simp at hu)
theorem yielded_tup {ops : Array Oper} {s : Slots} {h : Heap} {g : Gh} {a : Act} {w : World} (r : R H w0 g0 s h g a w) {j d : Nat} {vs : List AV} (hj : (ops[j]?).bind (·.dst) = some d) (hs : s d = .tup vs) : yielded ops a.tmps j = none := by
 have hsl := r.slots d
 rw [hs] at hsl
 have hsl' : Rep w g (.tup vs) (a.tmps.getD d undef) := hsl
 simp only [yielded, hj, Option.bind_some]
 rw [Array.getD_eq_getD_getElem?] at hsl'
 cases hx : a.tmps[d]? with
 | none => rfl
 | some y =>
   rw [hx] at hsl'
   simp only [zXa] at hsl'
   cases hsl' with
   | tup => rfl
theorem sound_at {ops : Array Oper} {o : Oper} {s : Slots} {h : Heap} {g : Gh} {a : Act} {w : World} {K : Slots → Heap → Prop} {Q : Exit → Act → World → Prop} {i : Nat} {K2 : Act → World → Prop} (hT : ∀ f S, T f = some S → Does P f S)
   (hi : ops[i]? = some o) (r : R H w0 g0 s h g a w) (hN : a.tmps.size = N) (hd : ∀ d, o.dst = some d → d < N) (hK : awpAt P T ops o s h K)
   (next : ∀ a w, Done N H w0 g0 K a w → K2 a w) : wpOp P ops Q i K2 a w := by
 have step : ∀ (s : Slots) (a : Act), R H w0 g0 s h g a w → a.tmps.size = N → awpOp P T o.op s h (fun x s' h' => K (putD o.dst s' x) h') → o.wp P a w K2 Q := by
   intro s a r hN hK
   refine Oper.wp_mono (K := Aft N H w0 g0 o _) ?_ (sound_op hT r hN hd hK)
   rintro a' w' ⟨x, s', h', g', hk, r', hn⟩
   exact next a' w' ⟨_, h', g', hk, r', hn⟩
 simp only [wpOp, hi]
 unfold awpAt at hK
 split at hK
 · rename_i hg
   have hw : Region.wanted o (yielded ops a.tmps) = true := by simp [Region.wanted, hg]
   rw [if_pos hw]
   exact .inl (step s a r hN hK)
 · rename_i j want hg
   unfold awpGuard at hK
   split at hK
   · exact hK.elim
   · rename_i d hj
     unfold guardA at hK
     split at hK
     · rename_i b hs
       have hsl := r.slots d
       rw [hs] at hsl
       have hv : a.tmps.getD d undef = .bool b := (rep_v hsl).1
       have hy : yielded ops a.tmps j = some b := by
         have : a.tmps[d]? = some (.bool b) := by
           rw [Array.getD_eq_getD_getElem?] at hv
           cases hx : a.tmps[d]? with
           | none => rw [hx] at hv; simp [undef] at hv
           | some y => rw [hx] at hv; simp at hv; rw [hv]
         simp [yielded, hj, this]
       by_cases hb : b = want
       · subst hb
         have hw : Region.wanted o (yielded ops a.tmps) = true := by simp [Region.wanted, hg, hy]
         rw [if_pos hw]
         exact .inl (step _ a (r.known hs) hN (hK.1 rfl))
       · have hw : Region.wanted o (yielded ops a.tmps) = false := by simp [Region.wanted, hg, hy, hb]
         rw [hw]
         simp only [zOb, if_false]
         have hb' : b = !want := by cases b <;> cases want <;> simp_all
         have hk := hK.2 hb'
         subst hb'
         refine next _ _ ⟨_, h, g, hk, ?_, by rw [size_put]; exact hN⟩
         cases ho : o.dst with
         | none => exact r.known hs
         | some d' => exact (r.known hs).put_rep (by rw [hN]; exact hd d' ho) (undef_rep _ _)
     · rename_i vs hs
       have hw : Region.wanted o (yielded ops a.tmps) = false := by simp [Region.wanted, hg, yielded_tup r hj hs]
       rw [hw]
       simp only [zOb, if_false]
       refine next _ _ ⟨_, h, g, hK, ?_, by rw [size_put]; exact hN⟩
       cases ho : o.dst with
       | none => exact r
       | some d' => exact r.put_rep (by rw [hN]; exact hd d' ho) (undef_rep _ _)
     · exact hK.elim
theorem sound_ops {ops : Array Oper} {Q : Exit → Act → World → Prop} (hT : ∀ f S, T f = some S → Does P f S) (hds : ∀ o ∈ ops.toList, ∀ d, o.dst = some d → d < N) :
   ∀ (l : List Oper) (k : Nat) {s : Slots} {h : Heap} {g : Gh} {a : Act} {w : World} {K : Slots → Heap → Prop}, ops.toList.drop k = l → R H w0 g0 s h g a w → a.tmps.size = N →
     awpOps P T ops l s h K → (∀ a w, Done N H w0 g0 K a w → Q .normal a w) → wpOps P ops Q ((zIb ops.size).drop k) a w
 | [], k, s, h, g, a, w, K, hl, r, hN, hK, hQ => by
   have : ops.size ≤ k := by
     have := congrArg List.length hl
     simp at this; omega
   rw [zNb (by simpa using this)]
   exact hQ a w ⟨s, h, g, hK, r, hN⟩
 | o :: l, k, s, h, g, a, w, K, hl, r, hN, hK, hQ => by
   have hk : k < ops.size := by
     rcases zMa k ops.size with h' | h'
     · exact h'
     · rw [zNb (by simpa using h')] at hl; cases hl
   have hk' : k < ops.toList.length := by simpa using hk
   rw [List.drop_eq_getElem_cons hk'] at hl
   injection hl with h1 h2
   have hr : (zIb ops.size).drop k = k :: (zIb ops.size).drop (k + 1) := by
     rw [List.drop_eq_getElem_cons (by simpa using hk)]; simp
   rw [hr, wpOps_cons]
   have ho : ops[k]? = some o := by
     rw [Array.getElem?_eq_getElem hk, ← h1]; simp
   refine sound_at hT ho r hN (hds o (by rw [← h1]; exact zWa _)) hK ?_
   rintro a' w' ⟨s', h', g', hk2, r', hn'⟩
   exact sound_ops hT hds l (k + 1) h2 r' hn' hk2 hQ
def QR (N : Nat) (H : Hst) (w0 : World) (g0 : Gh) (Q : Out → Slots → Heap → Prop) : Exit → Act → World → Prop
 | .normal => Done N H w0 g0 (Q .normal)
 | .exit id => Done N H w0 g0 (Q (.exit id))
 | .ret => Done N H w0 g0 (Q .ret)
 | _ => fun _ _ => False
theorem sound_opP {o : Oper} {s : Slots} {h : Heap} {g : Gh} {a : Act} {w : World} {K : AV → Slots → Heap → Prop} (hp : (isPure P o.op || isRead o.op) = true) (hok : takeOk P s o.op)
   (r : R H w0 g0 s h g a w) (hN : a.tmps.size = N) (hd : ∀ d, o.dst = some d → d < N) (hK : awpOp P T o.op s h K) : Pw P o a w g (Aft N H w0 g0 o K) := by
 unfold awpOp at hK
 split at hK
 · rename_i ho; exact sound_moveP ho r hN hd hK
 · rename_i ho; rw [ho] at hp; cases hp
 · rename_i ho
   unfold condA at hK
   split at hK
   · rename_i hc; exact sound_pickP ho r hN hd hc hK.1 hK.2
   · exact hK.elim
 · rename_i ho; exact sound_binXP ho r hN hd hK
 · rename_i src dst x ho
   rw [ho] at hok
   by_cases hsrc : ∃ k, P.underlying src = some (.int k)
   · refine sound_convP ho r hN hd ?_
     obtain ⟨ki, hki⟩ := hsrc
     unfold awpCvX at hK
     split at hK
     · unfold awpStrOf at hK
       split at hK
       · obtain ⟨-, hb, -⟩ := hK
         obtain ⟨e, he, -⟩ := bytesT_spec hb
         rw [hki] at he; cases he
       · obtain ⟨e, he, -⟩ := bytesT_spec hK.1
         rw [hki] at he; cases he
       · rw [hki] at hK; cases hK.1
       · exact hK.elim
     split at hK
     · rw [hki] at hK; cases hK.2.1
     unfold awpCv at hK
     split at hK
     · obtain ⟨-, he, hu, -⟩ := hK
       subst he
       rw [hki] at hu; exact hu.elim
     · exact hK
   · have he : slA (ev s x) := by
       have hok : takeC (P.underlying src) (ev s x) := hok
       unfold takeC at hok
       split at hok
       · rename_i k hk; exact absurd ⟨k, hk⟩ hsrc
       · exact hok
     unfold awpCvX at hK
     split at hK
     · rename_i hu; exact sound_strOfP ho r hN hd hu he hK
     · exfalso
       generalize hy : ev s x = y at he hK
       cases y with
       | sl sz xs =>
         simp only [look] at hK
         unfold awpCv at hK
         split at hK
         · rename_i m e sz' xs' s' htk
           unfold tk at htk
           cases x with
           | tmp t =>
             have hy' : s t = .sl sz xs := hy
             simp only [hy'] at htk
             cases htk
           | _ => simp only at htk; rw [hy] at htk; cases htk
         · exact hK.elim
       | _ => exact he.elim
 · rename_i ho; rw [ho] at hp; cases hp
 · rename_i ho; exact sound_idxXP ho r hN hd hK
 · rename_i ho; exact sound_indexP ho r hN hd hK
 · rename_i ho; rw [ho] at hok; exact sound_loadP ho r hN hd hok hK
 · rename_i ho; exact sound_nilCheckP ho r hN hd hK
 · rename_i ho; exact sound_fieldAddrP ho r hN hd hK
 · rename_i ho; rw [ho] at hp; cases hp
 · rename_i ho; rw [ho] at hp; cases hp
 · rename_i ho; rw [ho] at hp; cases hp
 · rename_i ho; rw [ho] at hp; cases hp
 · rename_i ho; rw [ho] at hp; cases hp
 · rename_i ho; exact sound_unP ho r hN hd hK
 · rename_i ho; exact sound_sliceP ho r hN hd hK
 · rename_i ho; rw [ho] at hp; cases hp
 · rename_i ho
   exact sound_extractSP ho r hN hd hK
 · rename_i ho; rw [ho] at hp; cases hp
 · rename_i b args ts ho
   rw [ho] at hp
   unfold awpBui at hK
   split at hK
   · cases hp
   · cases hp
   · cases hp
   · cases hp
   · exact sound_builtinP ho r hN hd hK
 · rename_i ho; rw [ho] at hp; cases hp
 · rename_i ho; rw [ho] at hp; cases hp
 · rename_i ho; rw [ho] at hp; cases hp
 · rename_i ho; rw [ho] at hp; cases hp
 · rename_i ho; rw [ho] at hp; cases hp
 · rename_i ho; rw [ho] at hp; cases hp
 · rename_i ho; rw [ho] at hp; cases hp
 · rename_i ho; rw [ho] at hp; cases hp
 · exact hK.elim
theorem set_same {s : Slots} {d : Nat} {x : AV} (h : s d = x) : set s d x = s := by
 funext i; unfold set; split
 · rename_i e; subst e; exact h.symm
 · rfl
theorem wpAnyH_weaken {ops : Array Oper} {Q : Exit → Act → World → Prop} {S S' : World → Prop} (hS : ∀ w, S w → S' w) : ∀ (fuel : Nat) (l : Array Bool) (a : Act) (w : World),
   wpAnyH P .any ops Q S fuel l a w → wpAnyH P .any ops Q S' fuel l a w
 | 0, _, _, _, h => h
 | fuel + 1, _, _, _, h => ⟨h.1, fun i hi => wpOp_mono (fun a' w' h' => ⟨hS _ h'.1, wpAnyH_weaken hS fuel _ a' w' h'.2⟩) (h.2 i hi)⟩
theorem sound_atP {ops : Array Oper} {o : Oper} {s : Slots} {h : Heap} {g : Gh} {a : Act} {w : World} {K : Slots → Heap → Prop} (hp : (isPure P o.op || isRead o.op) = true) (hok : takeOk P s o.op)
   (r : R H w0 g0 s h g a w) (hN : a.tmps.size = N) (hd : ∀ d, o.dst = some d → d < N) (hK : awpAt P T ops o s h K) :
   ∃ v, YieldsIf P ops (Cells w g) o v a ∧ Done N H w0 g0 K (a.put o.dst v) w := by
 have step : ∀ (s : Slots) (a : Act), takeOk P s o.op → R H w0 g0 s h g a w → a.tmps.size = N → awpOp P T o.op s h (fun x s' h' => K (putD o.dst s' x) h') → Region.wanted o (yielded ops a.tmps) = true → ∃ v, YieldsIf P ops (Cells w g) o v a ∧ Done N H w0 g0 K (a.put o.dst v) w := by
   intro s a hok r hN hK hw
   obtain ⟨v, h1, x, s', h', g', hk, r', hn⟩ := sound_opP hp hok r hN hd hK
   exact ⟨v, .inl ⟨hw, h1⟩, _, h', g', hk, r', hn⟩
 unfold awpAt at hK
 split at hK
 · rename_i hg
   exact step s a hok r hN hK (by simp [Region.wanted, hg])
 · rename_i j want hg
   unfold awpGuard at hK
   split at hK
   · exact hK.elim
   · rename_i d hj
     unfold guardA at hK
     split at hK
     · rename_i b hs
       have hsl := r.slots d
       rw [hs] at hsl
       have hv : a.tmps.getD d undef = .bool b := (rep_v hsl).1
       have hy : yielded ops a.tmps j = some b := by
         have : a.tmps[d]? = some (.bool b) := by
           rw [Array.getD_eq_getD_getElem?] at hv
           cases hx : a.tmps[d]? with
           | none => rw [hx] at hv; simp [undef] at hv
           | some y => rw [hx] at hv; simp at hv; rw [hv]
         simp [yielded, hj, this]
       by_cases hb : b = want
       · subst hb
         exact step _ a (by rw [set_same hs]; exact hok) (r.known hs) hN (hK.1 rfl) (by simp [Region.wanted, hg, hy])
       · have hw : Region.wanted o (yielded ops a.tmps) = false := by simp [Region.wanted, hg, hy, hb]
         have hb' : b = !want := by cases b <;> cases want <;> simp_all
         have hk := hK.2 hb'
         subst hb'
         refine ⟨undef, .inr ⟨hw, rfl⟩, _, h, g, hk, ?_, by rw [size_put]; exact hN⟩
         cases ho : o.dst with
         | none => exact r.known hs
         | some d' => exact (r.known hs).put_rep (by rw [hN]; exact hd d' ho) (undef_rep _ _)
     · rename_i vs hs
       have hw : Region.wanted o (yielded ops a.tmps) = false := by simp [Region.wanted, hg, yielded_tup r hj hs]
       refine ⟨undef, .inr ⟨hw, rfl⟩, _, h, g, hK, ?_, by rw [size_put]; exact hN⟩
       cases ho : o.dst with
       | none => exact r
       | some d' => exact r.put_rep (by rw [hN]; exact hd d' ho) (undef_rep _ _)
     · exact hK.elim
theorem sound_tree {ops : Array Oper} {Q : Exit → Act → World → Prop} {K : Slots → Heap → Prop} (hT : ∀ f S, T f = some S → Does P f S) (hds : ∀ o ∈ ops.toList, ∀ d, o.dst = some d → d < N)
   (hsel : Region.noSelect ops = true) (hQ : ∀ c a w, Q (.panic c) a w → False) :
   ∀ (t : Tree) (l : Array Bool) (e : Option (List Nat)), chk P ops t l e = true → ∀ (fuel : Nat), t.deep ≤ fuel → ∀ {H : Hst} {s : Slots} {h : Heap} {g : Gh} {a : Act} {w : World},
     (∀ a w, Done N H w0 g0 K a w → Q .normal a w) → R H w0 g0 s h g a w → a.tmps.size = N → awpTree P T ops t s h K →
     match e with
     | none => wpAnyH P .any ops Q (Cells H.w H.g) fuel l a w
     | some js => ∀ f, fuel = f + 1 → ∀ i ∈ js, wpOp P ops Q i (fun a' w' => Cells H.w H.g w' ∧ wpAnyH P .any ops Q (Cells H.w H.g) f (l.setIfInBounds i true) a' w') a w := by
 have hmem : ∀ {i : Nat} {o : Oper}, ops[i]? = some o → ∀ d, o.dst = some d → d < N := fun hi => hds _ (by
   have := Array.mem_of_getElem? hi
   simpa using this)
 intro t
 induction t with
 | done =>
   intro l e hc fuel hf H s h g a w hn r hN hK
   cases e with
   | none => exact wpAnyH_done (by simpa [chk] using hc) (hn a w ⟨s, h, g, hK, r, hN⟩) fuel
   | some js => simp [chk] at hc
 | stop =>
   intro l e hc fuel hf H s h g a w hn r hN hK
   cases e with
   | none => simp [chk] at hc
   | some js =>
     cases js with
     | nil => intro f _ i hi; cases hi
     | cons j js => simp [chk] at hc
 | take i t ih =>
   intro l e hc fuel hf H s h g a w hn r hN hK
   cases e with
   | none =>
     simp only [chk, zTa] at hc
     obtain ⟨⟨⟨h1, h2⟩, h3⟩, h4⟩ := hc
     unfold awpTree at hK
     split at hK
     · rename_i o hi
       obtain ⟨hok, hK⟩ := hK
       simp only [hi, Option.any_some] at h3
       obtain ⟨v, hy, s', h', g', hk, r', hn'⟩ := sound_atP h3 hok r.rebase hN (hmem hi) hK
       cases fuel with
       | zero => simp [Tree.deep] at hf
       | succ f =>
         have hn2 : ∀ a' w', Done N ⟨w, g⟩ w0 g0 K a' w' → Q .normal a' w' := fun a' w' ⟨s2, h2, g2, k2, r2, n2⟩ => hn a' w' ⟨s2, h2, g2, k2, r2.back r.kept, n2⟩
         have := wpAnyH_take hi hsel h2 h1 (fun c a w hq => (hQ c _ w hq).elim) hy (Cells.refl w g) (ih _ none h4 f (by simp only [Tree.deep] at hf; omega) hn2 r' hn' hk)
         exact wpAnyH_weaken (fun w' hc' => Cells.after r.kept hc') _ _ _ _ this
     · exact hK.elim
   | some js => simp [chk] at hc
 | alt i t rt iht ihr =>
   intro l e hc fuel hf H s h g a w hn r hN hK
   simp only [chk] at hc
   split at hc
   · rename_i j js he
     simp only [zTa, beq_iff_eq] at hc
     obtain ⟨⟨rfl, h2⟩, h3⟩ := hc
     simp only [awpTree] at hK
     obtain ⟨hK1, hK2⟩ := hK
     have hd1 : t.deep + 1 ≤ fuel ∧ rt.deep ≤ fuel := by simp only [Tree.deep] at hf; omega
     have all : ∀ f, fuel = f + 1 → ∀ k ∈ i :: js, wpOp P ops Q k (fun a' w' => Cells H.w H.g w' ∧ wpAnyH P .any ops Q (Cells H.w H.g) f (l.setIfInBounds k true) a' w') a w := by
       intro f hfu k hk
       rcases List.mem_cons.1 hk with rfl | hk
       · split at hK1
         · rename_i o hi
           refine sound_at hT hi r hN (hmem hi) hK1 ?_
           rintro a' w' ⟨s', h', g', hk', r', hn'⟩
           exact ⟨r'.kept.cell, iht _ none h2 f (by omega) hn r' hn' hk'⟩
         · exact hK1.elim
       · exact ihr l (some js) h3 fuel hd1.2 hn r hN hK2 f hfu k hk
     cases e with
     | none =>
       simp only [Option.getD_none] at he
       cases fuel with
       | zero => omega
       | succ f => exact wpAnyH_all he (by simp) (all f rfl)
     | some js' =>
       simp only [zXa] at he
       subst he
       exact all
   · cases hc
theorem sound (hT : ∀ f S, T f = some S → Does P f S) (c : Code) : ∀ {s : Slots} {h : Heap} {g : Gh} {a : Act} {w : World} {Q : Out → Slots → Heap → Prop},
   dstsOk N c = true → R H w0 g0 s h g a w → a.tmps.size = N → awp P T c s h Q → c.wp P (QR N H w0 g0 Q) a w := by
 induction c with
 | skip => intro s h g a w Q _ r hN hK; exact wp_skip ⟨s, h, g, hK, r, hN⟩
 | region id ops draw =>
   intro s h g a w Q hd r hN hK
   have hds : ∀ o ∈ ops.toList, ∀ d, o.dst = some d → d < N := fun o ho d hod => by
     have := List.all_eq_true.1 hd o ho
     rw [hod] at this
     simpa using this
   cases draw with
   | true =>
     obtain ⟨⟨hm, hsel⟩, ks, t, C, hc, hdp, hK, hC⟩ := hK
     obtain ⟨g2, r2⟩ := R.pubs ks (R.drew r)
     exact wp_region_held hm (sound_tree hT hds (Q := QR N H w0 g0 Q) hsel (fun _ _ _ h => h) t _ none (by simpa using hc) ops.size hdp (fun a w ⟨s2, h2, g2, k2, r2⟩ => ⟨s2, h2, g2, hC _ _ k2, r2⟩) r2 hN hK)
   | false =>
     refine wp_region ?_
     exact sound_ops hT hds ops.toList 0 rfl r hN hK fun a w hq => hq
 | seq x y ihx ihy =>
   intro s h g a w Q hd r hN hK
   simp only [dstsOk, zTa] at hd
   refine wp_seq (wp_mono (ihx hd.1 r hN hK) ?_)
   intro e a' w' hq
   cases e with
   | normal => obtain ⟨s', h', g', hk, r', hn'⟩ := hq; exact ihy hd.2 r' hn' hk
   | exit id => exact hq
   | ret => exact hq
   | _ => exact hq.elim
 | cond c x y ihx ihy =>
   intro s h g a w Q hd r hN hK
   simp only [dstsOk, zTa] at hd
   simp only [awp, condA] at hK
   split at hK
   · rename_i t hc
     have he := r.eval c
     rw [hc] at he
     refine wp_cond_split (rep_v he).1 (fun ht => ihx hd.1 r hN (hK.1 ht)) fun hf => ihy hd.2 r hN (hK.2 hf)
   · exact hK.elim
 | block id b ih =>
   intro s h g a w Q hd r hN hK
   refine wp_block (wp_mono (ih hd r hN hK) ?_)
   intro e a' w' hq
   cases e with
   | normal => exact hq
   | exit id' =>
     obtain ⟨s', h', g', hk, r', hn'⟩ := hq
     simp only [Exit.inBlock]
     split
     · rename_i e; simp only [blockO, e, if_true] at hk; exact ⟨s', h', g', hk, r', hn'⟩
     · rename_i e; simp only [blockO, e, if_false] at hk; exact ⟨s', h', g', hk, r', hn'⟩
   | ret => exact hq
   | _ => exact hq.elim
 | loop b ih =>
   intro s h g a w Q hd r hN hK
   obtain ⟨I, n, ⟨s1, hle, hI⟩, hround⟩ := hK
   refine wp_loop_ghost (fun n a w => ∃ s h g, I n s h ∧ R H w0 g0 s h g a w ∧ a.tmps.size = N) n ⟨s1, h, g, hI, r.le hle, hN⟩ ?_
   rintro n a w ⟨s, h, g, hI, r, hN⟩
   refine wp_mono (ih hd r hN (hround n s h hI)) ?_
   intro e a' w' hq
   cases e with
   | normal =>
     obtain ⟨s', h', g', ⟨m, hm, s2, hle2, hI2⟩, r', hn'⟩ := hq
     exact ⟨m, hm, s2, h', g', hI2, r'.le hle2, hn'⟩
   | exit id => exact hq
   | ret => exact hq
   | _ => exact hq.elim
 | rangeFunc f p x y => intro s h g a w Q _ _ _ hK; exact hK.elim
 | exit id => intro s h g a w Q _ r hN hK; exact wp_exit ⟨s, h, g, hK, r, hN⟩
 | scope b ih =>
   intro s h g a w Q hd r hN hK
   refine wp_scope_straight (wp_mono (ih hd r hN hK) ?_)
   intro e a' w' hq
   cases e with
   | normal => exact hq
   | exit id => exact hq
   | ret => exact hq
   | _ => exact hq.elim
 | label l => intro s h g a w Q _ r hN hK; exact wp_label ⟨s, h, g, hK, r, hN⟩
 | goto l => intro s h g a w Q _ _ _ hK; exact hK.elim
 | ret => intro s h g a w Q _ r hN hK; exact wp_ret ⟨s, h, g, hK, r, hN⟩
 | refuse y => intro s h g a w Q _ _ _ hK; exact hK.elim
def resVar (tm : Nat → Value) : ResultVar → Sem Value
 | .tmp t => pure (tm t)
 | .cell x t => do loadVar t (← asAddr (tm x))
theorem sound_results {a : Act} {w : World} : ∀ (rs : List ResultVar) {s : Slots} {h : Heap} {g : Gh} {K : List AV → Slots → Heap → Prop}, R H w0 g0 s h g a w → awpResults P rs s h K →
   ∃ vs us s' h' g', (rs.mapM (resVar (tmOf a))).run P w = .ok us w ∧ us.length = vs.length ∧ us.length = rs.length ∧ Keeps w g w g' ∧ (∀ (j : Nat) (x : AV), vs[j]? = some x → Rep w g' x (us.getD j undef)) ∧ K vs s' h' ∧ R H w0 g0 s' h' g' a w
 | [], s, h, g, K, r, hK => ⟨[], [], s, h, g, by simp, rfl, rfl, Keeps.refl w g, by simp, hK, r⟩
 | .tmp t :: rs, s, h, g, K, r, hK => by
   obtain ⟨g1, r1, k1, p1⟩ := r.esc (.tmp t)
   obtain ⟨vs, us, s', h', g', h1, h2, h2', h3, h5, h6, h7⟩ := sound_results rs r1 hK
   refine ⟨_, tmOf a t :: us, s', h', g', ?_, by simp [h2], by simp [h2'], k1.trans h3, ?_, h6, h7⟩
   · simp [zMb, resVar, h1]
   · intro j x hx
     cases j with
     | zero => simp only [zKa, Option.some.injEq] at hx; subst hx; exact p1.keep h3
     | succ j => simp only [zPa] at hx; simpa using h5 j x hx
 | .cell b t :: rs, s, h, g, K, r, hK => by
   obtain ⟨hm, -⟩ := r.mv (.tmp b)
   obtain ⟨ad, y, u, e1, e2, e3, e4⟩ := atPlace_load r hm hK
   obtain ⟨vs, us, s', h', g', h1, h2, h2', h3, h5, h6, h7⟩ := sound_results rs r e4
   refine ⟨_, u :: us, s', h', g', ?_, by simp [h2], by simp [h2'], h3, ?_, h6, h7⟩
   · have e1' : tmOf a b = .pointer (some ad) := e1
     simp [zMb, resVar, e1', asAddr, e2, h1]
   · intro j x hx
     cases j with
     | zero => simp only [zKa, Option.some.injEq] at hx; subst hx; simpa using e3.keep h3
     | succ j => simp only [zPa] at hx; simpa using h5 j x hx
theorem sound_resO {a : Act} {w : World} : ∀ (i : Nat) (rs : List ResultVar) {s : Slots} {h : Heap} {g : Gh} {K : List AV → Slots → Heap → Prop}, R H w0 g0 s h g a w → awpResO P i rs s h K →
   ∃ vs us s' h' g', (rs.mapM (resVar (tmOf a))).run P w = .ok us w ∧ us.length = vs.length ∧ us.length = rs.length ∧ Keeps w g w g' ∧ (∀ (j : Nat) (x : AV), vs[j]? = some x → Rep w g' x (us.getD j undef)) ∧
     (∀ t, rs[i]? = some (.tmp t) → us.getD i undef = tmOf a t) ∧ K vs s' h' ∧ R H w0 g0 s' h' g' a w
 | i, [], s, h, g, K, r, hK => by
   simp only [awpResO] at hK
   exact ⟨[], [], s, h, g, by simp, rfl, rfl, Keeps.refl w g, by simp, by simp, hK, r⟩
 | 0, .tmp t :: rs, s, h, g, K, r, hK => by
   simp only [awpResO] at hK
   obtain ⟨vs, us, s', h', g', h1, h2, h2', h3, h5, h6, h7⟩ := sound_results rs r hK
   refine ⟨_, tmOf a t :: us, s', h', g', ?_, by simp [h2], by simp [h2'], h3, ?_, ?_, h6, h7⟩
   · simp [zMb, resVar, h1]
   · intro j x hx
     cases j with
     | zero => simp only [zKa, Option.some.injEq] at hx; subst hx; exact .any _
     | succ j => simp only [zPa] at hx; simpa using h5 j x hx
   · intro t' ht
     simp only [zKa, Option.some.injEq, ResultVar.tmp.injEq] at ht
     subst ht; rfl
 | i + 1, .tmp t :: rs, s, h, g, K, r, hK => by
   simp only [awpResO] at hK
   obtain ⟨g1, r1, k1, p1⟩ := r.esc (.tmp t)
   obtain ⟨vs, us, s', h', g', h1, h2, h2', h3, h5, h8, h6, h7⟩ := sound_resO i rs r1 hK
   refine ⟨_, tmOf a t :: us, s', h', g', ?_, by simp [h2], by simp [h2'], k1.trans h3, ?_, ?_, h6, h7⟩
   · simp [zMb, resVar, h1]
   · intro j x hx
     cases j with
     | zero => simp only [zKa, Option.some.injEq] at hx; subst hx; exact p1.keep h3
     | succ j => simp only [zPa] at hx; simpa using h5 j x hx
   · intro t' ht
     simp only [zPa] at ht
     simpa using h8 t' ht
 | i + 1, .cell b t :: rs, s, h, g, K, r, hK => by
   simp only [awpResO] at hK
   obtain ⟨hm, -⟩ := r.mv (.tmp b)
   obtain ⟨ad, y, u, e1, e2, e3, e4⟩ := atPlace_load r hm hK
   obtain ⟨vs, us, s', h', g', h1, h2, h2', h3, h5, h8, h6, h7⟩ := sound_resO i rs r e4
   refine ⟨_, u :: us, s', h', g', ?_, by simp [h2], by simp [h2'], h3, ?_, ?_, h6, h7⟩
   · have e1' : tmOf a b = .pointer (some ad) := e1
     simp [zMb, resVar, e1', asAddr, e2, h1]
   · intro j x hx
     cases j with
     | zero => simp only [zKa, Option.some.injEq] at hx; subst hx; simpa using e3.keep h3
     | succ j => simp only [zPa] at hx; simpa using h5 j x hx
   · intro t' ht
     simp only [zPa] at ht
     simpa using h8 t' ht
 | 0, .cell b t :: rs, s, h, g, K, r, hK => by simp [awpResO] at hK
theorem results_eq (fn : Func) (tm : Array Value) : results fn tm = (do
   let vs ← fn.results.toList.mapM (resVar fun i => tm.getD i undef)
   pure (if h : vs.toArray.size = 1 then vs.toArray[0] else .tuple vs.toArray)) := by
 unfold results
 rw [Array.mapM_eq_mapM_toList]
 simp only [bind_map_left]
 rfl
theorem sound_ret {fn : Func} {s : Slots} {h : Heap} {g : Gh} {a : Act} {w : World} {Q : AV → Heap → Prop} (r : R H w0 g0 s h g a w) (hK : awpRet P fn.results.toList s h Q) :
   ∃ x v h' g', (results fn a.tmps).run P w = .ok v w ∧ Q x h' ∧ ResRep w g' w0.heap.size x v ∧ HeapRep w g' h' ∧ g0.n ≤ g'.n ∧ (∀ i, i < g0.n → g'.loc i = g0.loc i) ∧
     (∀ b, b < w0.heap.size → g'.pub b = g0.pub b) ∧ (∀ i, i < g'.n → g0.n ≤ i → w0.heap.size ≤ g'.loc i) ∧ (∀ b, w.heap.size ≤ b → g'.pub b = 0) := by
 rw [results_eq]
 unfold awpRet at hK
 split at hK
 · rename_i t hrs
   unfold ret1 at hK
   split at hK
   · rename_i cs hs
     obtain ⟨g1, r1, k1, p1⟩ := r.promote hs
     exact ⟨.ptr h.length 0, a.tmps.getD t undef, _, g1, by simp [hrs, resVar], hK, p1, r1.heap, r1.n0, r1.loc0, r1.old, r1.loc1, r1.fresh⟩
   · obtain ⟨g1, r1, k1, p1⟩ := r.esc (.tmp t)
     refine ⟨_, a.tmps.getD t undef, _, g1, by simp [hrs, resVar], hK, ?_, r1.heap, r1.n0, r1.loc0, r1.old, r1.loc1, r1.fresh⟩
     have hsh := rep_shared p1
     generalize (esc s h (.tmp t)).1 = x at p1 hsh
     cases x <;> first | exact p1 | (cases hsh)
   · obtain ⟨h1, h2⟩ := r.tk (.tmp t)
     refine ⟨_, a.tmps.getD t undef, h, g, by simp [hrs, resVar], hK, ?_, r.heap, r.n0, r.loc0, r.old, r.loc1, r.fresh⟩
     generalize (tk s (.tmp t)).1 = x at h1 h2
     cases x with
     | own m e sz xs => exact ⟨h1, fun b hb => (h2 b hb).2⟩
     | box cs => exact .any _
     | alias k => exact .any _
     | place k off => exact .any _
     | elt k sz i off => exact .any _
     | iter id since seen c0 => exact .any _
     | otup i m e sz xs rest => exact .any _
     | part k i => exact .any _
     | _ => exact h1
 · rename_i b t hrs
   obtain ⟨hm, -⟩ := r.mv (.tmp b)
   obtain ⟨ad, y, u, e1, e2, e3, e4⟩ := atPlace_load r hm hK
   have e1' : a.tmps.getD b undef = .pointer (some ad) := e1
   refine ⟨y, u, h, g, ?_, e4, ?_, r.heap, r.n0, r.loc0, r.old, r.loc1, r.fresh⟩
   · rw [hrs]; simp only [zMb, List.mapM_nil, resVar, e1', asAddr]; simp [e2]
   · cases y <;> first | exact e3 | cases e3
 · rename_i h1 h2
   obtain ⟨vs, us, s', h', g', a1, a2, hl, a3, a5, a6, r'⟩ := sound_results fn.results.toList r hK
   have hl1 : us.length ≠ 1 := by
     rw [hl]
     intro e
     obtain ⟨x, hx⟩ := List.length_eq_one_iff.1 e
     cases x with
     | tmp t => exact h1 t hx
     | cell b t => exact h2 b t hx
   refine ⟨_, .tuple us.toArray, h', g', ?_, a6, .tup (by simp [a2]) (fun j u hu => by simpa [Array.getD_eq_getD_getElem?, zIa] using a5 j u hu), r'.heap, r'.n0, r'.loc0, r'.old, r'.loc1, r'.fresh⟩
   simp only [Sem.run_bind]
   have a1' : (List.mapM (resVar fun i => a.tmps.getD i undef) fn.results.toList).run P w = .ok us w := a1
   rw [a1']
   simp [hl1]
theorem sound_retO {i : Nat} {fn : Func} {s : Slots} {h : Heap} {g : Gh} {a : Act} {w : World} {Q : AV → Heap → Prop} (r : R H w0 g0 s h g a w) (hK : awpRetO P i fn.results.toList s h Q) :
   ∃ x v h' g', (results fn a.tmps).run P w = .ok v w ∧ Q x h' ∧ ResRep w g' w0.heap.size x v ∧ HeapRep w g' h' ∧ g0.n ≤ g'.n ∧ (∀ i, i < g0.n → g'.loc i = g0.loc i) ∧
     (∀ b, b < w0.heap.size → g'.pub b = g0.pub b) ∧ (∀ i, i < g'.n → g0.n ≤ i → w0.heap.size ≤ g'.loc i) ∧ (∀ b, w.heap.size ≤ b → g'.pub b = 0) := by
 rw [results_eq]
 unfold awpRetO at hK
 split at hK
 · rename_i t hrs
   obtain ⟨hlen, hK⟩ := hK
   obtain ⟨vs, us, s', h', g', a1, a2, hl, a3, a5, a8, a6, r'⟩ := sound_resO i fn.results.toList r hK
   have hl1 : us.length ≠ 1 := by omega
   have hrun : ∀ v, v = Value.tuple us.toArray → ((do
       let vs ← fn.results.toList.mapM (resVar fun i => a.tmps.getD i undef)
       pure (if h : vs.toArray.size = 1 then vs.toArray[0] else .tuple vs.toArray)) : Sem Value).run P w = .ok v w := fun v hv => by
     simp only [Sem.run_bind]
     have a1' : (List.mapM (resVar fun i => a.tmps.getD i undef) fn.results.toList).run P w = .ok us w := a1
     rw [a1']
     simp [hl1, hv]
   have hrep : ∀ (j : Nat) (u : AV), vs[j]? = some u → Rep w g' u (us.toArray.getD j undef) := fun j u hu => by
     simpa [Array.getD_eq_getD_getElem?, zIa] using a5 j u hu
   have hgi : us.toArray.getD i undef = tmOf a t := by
     have := a8 t hrs
     simpa [Array.getD_eq_getD_getElem?, zIa] using this
   obtain ⟨h1, h2⟩ := r'.tk (.tmp t)
   have h1' : slotRep w g' w0.heap.size (tmOf a) (Vm.tk s' (.tmp t)).1 (tmOf a t) := h1
   have h2' : ∀ b, privB (Vm.tk s' (.tmp t)).1 (tmOf a t) = some b → (∀ i, privB ((Vm.tk s' (.tmp t)).2 i) (tmOf a i) ≠ some b) ∧ ∀ k, k < g'.n → g'.loc k ≠ b := h2
   generalize (Vm.tk s' (.tmp t)).1 = x at h1' h2' a6
   have other : ∀ x, Rep w g' (val x) (tmOf a t) → Q (.tup (vs.set i (val x))) h' → ∃ x v h' g', ((do
       let vs ← fn.results.toList.mapM (resVar fun i => a.tmps.getD i undef)
       pure (if h : vs.toArray.size = 1 then vs.toArray[0] else .tuple vs.toArray)) : Sem Value).run P w = .ok v w ∧ Q x h' ∧ ResRep w g' w0.heap.size x v ∧ HeapRep w g' h' ∧ g0.n ≤ g'.n ∧ (∀ i, i < g0.n → g'.loc i = g0.loc i) ∧
     (∀ b, b < w0.heap.size → g'.pub b = g0.pub b) ∧ (∀ i, i < g'.n → g0.n ≤ i → w0.heap.size ≤ g'.loc i) ∧ (∀ b, w.heap.size ≤ b → g'.pub b = 0) := fun x hx hq => by
     refine ⟨_, .tuple us.toArray, h', g', hrun _ rfl, hq, .tup (by simp [a2]) (fun j u hu => ?_), r'.heap, r'.n0, r'.loc0, r'.old, r'.loc1, r'.fresh⟩
     rw [List.getElem?_set] at hu
     split at hu
     · rename_i hij
       subst hij
       split at hu
       · simp only [Option.some.injEq] at hu; subst hu; rw [hgi]; exact hx
       · cases hu
     · exact hrep j u hu
   cases x with
   | own m e sz xs =>
     refine ⟨.otup i m e sz xs vs, .tuple us.toArray, h', g', hrun _ rfl, a6, ⟨⟨us.toArray, rfl, by simp [a2], hrep, by rw [hgi]; exact h1'⟩, fun b hb k hk => ?_⟩, r'.heap, r'.n0, r'.loc0, r'.old, r'.loc1, r'.fresh⟩
     have hb' : (us.toArray.getD i undef).ownBlock = some b := hb
     rw [hgi] at hb'
     exact (h2' b hb').2 k hk
   | box cs => exact other (.box cs) (.any _) a6
   | alias k => exact other (.alias k) (.any _) a6
   | place k off => exact other (.place k off) (.any _) a6
   | elt k sz i off => exact other (.elt k sz i off) (.any _) a6
   | iter id since seen c0 => exact other (.iter id since seen c0) (.any _) a6
   | otup i m e sz xs rest => exact other (.otup i m e sz xs rest) (.any _) a6
   | part k i => exact other (.part k i) (.any _) a6
   | v x => exact other (.v x) (rep_val h1') a6
   | sl sz xs => exact other (.sl sz xs) (rep_val h1') a6
   | agg cs => exact other (.agg cs) (rep_val h1') a6
   | tup cs => exact other (.tup cs) (rep_val h1') a6
   | eptr cs => exact other (.eptr cs) (rep_val h1') a6
   | ptr id off => exact other (.ptr id off) (rep_val h1') a6
   | mp id => exact other (.mp id) (rep_val h1') a6
   | clo f cs => exact other (.clo f cs) (rep_val h1') a6
   | osl id off n c => exact other (.osl id off n c) (rep_val h1') a6
   | any => exact other .any (.any _) a6
 · exact hK.elim
theorem init_get (args : List AV) (i : Nat) : init args i = (args[i]?).getD .any := rfl
theorem does_of_ret {Rt : Slots → Heap → (AV → Heap → Prop) → Prop} {f : FuncId} {fn : Func} {c : Code} {S : Spec} (hT : ∀ f S, T f = some S → Does P f S) (hf : P.funcs[f]? = some fn) (hb : fn.body = some c)
   (hn : (fn.name == "runtime.NumGoroutine") = false) (hd : dstsOk fn.ntmps c = true)
   (hR : ∀ {w0 : World} {g0 : Gh} {H : Hst} {s : Slots} {h : Heap} {g : Gh} {a : Act} {w : World} {Q : AV → Heap → Prop}, R H w0 g0 s h g a w → Rt s h Q →
     ∃ x v h' g', (results fn a.tmps).run P w = .ok v w ∧ Q x h' ∧ ResRep w g' w0.heap.size x v ∧ HeapRep w g' h' ∧ g0.n ≤ g'.n ∧ (∀ i, i < g0.n → g'.loc i = g0.loc i) ∧
       (∀ b, b < w0.heap.size → g'.pub b = g0.pub b) ∧ (∀ i, i < g'.n → g0.n ≤ i → w0.heap.size ≤ g'.loc i) ∧ (∀ b, w.heap.size ≤ b → g'.pub b = 0))
   (hS : ∀ args h Q, S args h Q → args.length ≤ fn.ntmps ∧ awp P T c (init args) h fun o s h' => endO o (Rt s h' Q)) : Does P f S := by
 refine ⟨⟨fn, hf, by rw [hb]; rfl, hn⟩, fun args h Q hSQ w g vs hvs hrep hh hfr hlaid => ?_⟩
 obtain ⟨hlen, haw⟩ := hS args h Q hSQ
 refine calls_of_wp hf hb ?_
 have htm : ∀ i, (vs ++ Array.replicate (fn.ntmps - vs.size) undef).getD i undef = vs.getD i undef := by
   intro i
   simp only [Array.getD_eq_getD_getElem?]
   by_cases hi : i < vs.size
   · rw [Array.getElem?_append_left hi]
   · rw [Array.getElem?_append_right (by omega), Array.getElem?_eq_none (xs := vs) (by omega)]
     by_cases h2 : i - vs.size < fn.ntmps - vs.size
     · simp [h2]
     · simp [h2]
 have hrep' : ∀ i, Rep w g (init args i) ((vs ++ Array.replicate (fn.ntmps - vs.size) undef).getD i undef) := by
   intro i
   rw [htm, init_get]
   cases hi : args[i]? with
   | none => exact .any _
   | some u => exact hrep i u hi
 have r : R ⟨w, g⟩ w g (init args) h g { tmps := vs ++ Array.replicate (fn.ntmps - vs.size) undef, defers := [] } w := by
   refine ⟨rfl, fun i => slotRep_of_rep (rep_shared (hrep' i)) (hrep' i), fun i j b hi _ => ?_, fun i b hi => ?_, hh, ⟨rfl, rfl, rfl, zVa _, fun _ _ _ => rfl⟩, zVa _, fun _ _ => rfl, fun _ _ => rfl, fun i hi h0 => by omega, hfr, hlaid, Keeps.refl w g⟩
   · rw [privB_shared (rep_shared (hrep' i))] at hi; cases hi
   · rw [privB_shared (rep_shared (hrep' i))] at hi; cases hi
 have hs := sound (N := fn.ntmps) hT c hd r (by simp; omega) haw
 refine wp_mono hs ?_
 have ret : ∀ (a : Act) (w' : World), Done fn.ntmps ⟨w, g⟩ w g (fun s h' => Rt s h' Q) a w' → bodyPost P fn (fun e w' => ∃ r h' g' v, Q r h' ∧ e = .returned v ∧ ResRep w' g' w.heap.size r v ∧ HeapRep w' g' h' ∧ Frame w g w' ∧
     g.n ≤ g'.n ∧ (∀ i, i < g.n → g'.loc i = g.loc i) ∧ (∀ b, b < w.heap.size → g'.pub b = g.pub b) ∧ (∀ i, i < g'.n → g.n ≤ i → w.heap.size ≤ g'.loc i) ∧
     (∀ b, w'.heap.size ≤ b → g'.pub b = 0)) .ret a w' := by
   rintro a w' ⟨s, h', g', hk, r', -⟩
   obtain ⟨x, v, h2, g2, b1, b2, b3, b4, b5, b6, b7, b8, b9⟩ := hR r' hk
   exact ⟨r'.defers, v, b1, x, h2, g2, v, b2, rfl, b3, b4, r'.frame, b5, b6, b7, b8, b9⟩
 intro e a w' hq
 cases e with
 | normal => exact ret a w' hq
 | ret => exact ret a w' hq
 | exit id => obtain ⟨s, h', g', hk, -⟩ := hq; exact hk.elim
 | _ => exact hq.elim
theorem does_of_awp {f : FuncId} {fn : Func} {c : Code} {S : Spec} (hT : ∀ f S, T f = some S → Does P f S) (hf : P.funcs[f]? = some fn) (hb : fn.body = some c)
   (hn : (fn.name == "runtime.NumGoroutine") = false) (hd : dstsOk fn.ntmps c = true)
   (hS : ∀ args h Q, S args h Q → args.length ≤ fn.ntmps ∧ awpFunc P T fn args h Q) : Does P f S :=
 does_of_ret (Rt := fun s h Q => awpRet P fn.results.toList s h Q) hT hf hb hn hd sound_ret fun args h Q hs => by
   have := hS args h Q hs
   unfold awpFunc at this
   rw [hb] at this
   exact this
theorem does_of_awpO (i : Nat) {f : FuncId} {fn : Func} {c : Code} {S : Spec} (hT : ∀ f S, T f = some S → Does P f S) (hf : P.funcs[f]? = some fn) (hb : fn.body = some c)
   (hn : (fn.name == "runtime.NumGoroutine") = false) (hd : dstsOk fn.ntmps c = true)
   (hS : ∀ args h Q, S args h Q → args.length ≤ fn.ntmps ∧ awpFuncO P T i fn args h Q) : Does P f S :=
 does_of_ret (Rt := fun s h Q => awpRetO P i fn.results.toList s h Q) hT hf hb hn hd sound_retO fun args h Q hs => by
   have := hS args h Q hs
   unfold awpFuncO at this
   rw [hb] at this
   exact this
end
end Go.Vm
namespace Go.Vm
open Go.RowKit
@[simp] theorem put_app (s : Slots) (d : Nat) (x : AV) (i : Nat) : put s d x i = bif i == d then killed d x else killed d (s i) := by
 by_cases h : i = d
 · simp [put, h]
 · have h' : (i == d) = false := by simpa using h
   simp [put, h, h']
@[simp] theorem set_app (s : Slots) (d : Nat) (x : AV) (i : Nat) : set s d x i = bif i == d then x else s i := by
 by_cases h : i = d
 · simp [set, h]
 · have h' : (i == d) = false := by simpa using h
   simp [set, h, h']
@[simp] theorem killed_v (d : Nat) (x : Value) : killed d (.v x) = .v x := id rfl
@[simp] theorem killed_sl (d sz : Nat) (xs : List AV) : killed d (.sl sz xs) = .sl sz xs := id rfl
@[simp] theorem killed_own (d sz : Nat) (m : Bool) (e : TypeId) (xs : List AV) : killed d (.own m e sz xs) = .own m e sz xs := id rfl
@[simp] theorem killed_agg (d : Nat) (xs : List AV) : killed d (.agg xs) = .agg xs := id rfl
@[simp] theorem killed_tup (d : Nat) (xs : List AV) : killed d (.tup xs) = .tup xs := id rfl
@[simp] theorem killed_box (d : Nat) (xs : List AV) : killed d (.box xs) = .box xs := id rfl
@[simp] theorem killed_eptr (d : Nat) (xs : List AV) : killed d (.eptr xs) = .eptr xs := id rfl
@[simp] theorem killed_ptr (d i o : Nat) : killed d (.ptr i o) = .ptr i o := id rfl
@[simp] theorem killed_mp (d i : Nat) : killed d (.mp i) = .mp i := id rfl
@[simp] theorem killed_clo (d f : Nat) (xs : List AV) : killed d (.clo f xs) = .clo f xs := id rfl
@[simp] theorem killed_iter (d i n : Nat) (l : List Nat) (c : Nat) : killed d (.iter i n l c) = .iter i n l c := id rfl
@[simp] theorem killed_any (d : Nat) : killed d .any = .any := id rfl
@[simp] theorem killed_alias (d s : Nat) : killed d (.alias s) = bif s == d then .any else .alias s := by
 by_cases h : s = d
 · simp [killed, h]
 · have h' : (s == d) = false := by simpa using h
   simp [killed, h, h']
@[simp] theorem killed_place (d s o : Nat) : killed d (.place s o) = bif s == d then .any else .place s o := by
 by_cases h : s = d
 · simp [killed, h]
 · have h' : (s == d) = false := by simpa using h
   simp [killed, h, h']
@[simp] theorem killed_elt (d s sz i o : Nat) : killed d (.elt s sz i o) = bif s == d then .any else .elt s sz i o := by
 by_cases h : s = d
 · simp [killed, h]
 · have h' : (s == d) = false := by simpa using h
   simp [killed, h, h']
@[simp] theorem killed_part (d s i : Nat) : killed d (.part s i) = bif s == d then .any else .part s i := by
 by_cases h : s = d
 · simp [killed, h]
 · have h' : (s == d) = false := by simpa using h
   simp [killed, h, h']
@[simp] theorem killed_otup (d i : Nat) (m : Bool) (e sz : Nat) (xs rest : List AV) : killed d (.otup i m e sz xs rest) = .otup i m e sz xs rest := id rfl
def mk (l : List (Nat × AV)) : Slots := fun i => (l.lookup i).getD .any
@[simp] theorem mk_app (l : List (Nat × AV)) (i : Nat) : mk l i = (l.lookup i).getD .any := id rfl
theorem lookup_mem {l : List (Nat × AV)} {i : Nat} {x : AV} (h : l.lookup i = some x) : (i, x) ∈ l := by
 induction l with
 | nil => simp at h
 | cons p l ih =>
   obtain ⟨k, y⟩ := p
   simp only [List.lookup] at h
   split at h
   · rename_i he
     simp only [Option.some.injEq] at h
     have : i = k := by simpa using he
     subst this; subst h
     exact List.mem_cons_self ..
   · exact List.mem_cons_of_mem _ (ih h)
theorem le_mk {s : Slots} (l : List (Nat × AV)) (h : ∀ p ∈ l, Fg (s p.1) p.2) : Le s (mk l) := by
 intro i
 unfold mk
 cases hl : l.lookup i with
 | none => exact .any _
 | some x => exact h _ (lookup_mem hl)
@[simp] theorem fg_refl (x : AV) : Fg x x := .refl x
def callA (T : FuncId → Option Spec) (f : FuncId) (xs : List AV) (s : Slots) (h : Heap) (K : AV → Slots → Heap → Prop) : Prop :=
 match T f with
 | some S => ∃ as, GaL xs as ∧ ∃ Q0, S as h Q0 ∧ ∀ r h', Q0 r h' → K r s h'
 | none => False
def callC (T : FuncId → Option Spec) (f : FuncId) (xs : List AV) (s : Slots) (h : Heap) (K : AV → Slots → Heap → Prop) (I : Prop) : Prop := callA T f xs s h K ∨ I
theorem call_one {T : FuncId → Option Spec} {f : FuncId} {xs : List AV} {s : Slots} {h : Heap} {K : AV → Slots → Heap → Prop} {I : Prop} {S : Spec} (hT : T f = some S) (as : List AV)
   (hg : GaL xs as) (hS : S as h fun r h' => K r s h') : callC T f xs s h K I := by
 refine .inl ?_
 unfold callA
 rw [hT]
 exact ⟨as, hg, _, hS, fun _ _ q => q⟩
theorem GaL.rfl : ∀ {l : List AV}, GaL l l
 | [] => .nil
 | x :: _ => .cons (.refl x) GaL.rfl
@[simp] theorem encB_cells (b : UInt8) : (encB b).cells = [encB b] := id rfl
@[simp] theorem val_encB (b : UInt8) : val (encB b) = encB b := id rfl
/-! What comes later is kept from 'simp' behind 'hid': its second argument's type hangs on the first, so no congruence law goes in. -/
structure Tg {α : Sort _} (K : α) : Type where mk ::
def hid {α : Sort _} (K : α) (_ : Tg K) : α := K
theorem hid1 {α : Type _} {β : Sort _} (K : α → β) (u : Tg K) (x : α) : hid K u x = K x := id rfl
theorem hid2 {α β : Type _} {γ : Sort _} (K : α → β → γ) (u : Tg K) (x : α) (y : β) : hid K u x y = K x y := id rfl
theorem hid3 {α β γ : Type _} {δ : Sort _} (K : α → β → γ → δ) (u : Tg K) (x : α) (y : β) (z : γ) : hid K u x y z = K x y z := id rfl
def kept (A : Prop) (_ : Tg A) : Prop := A
theorem kept_intro {A : Prop} {u : Tg A} (h : A) : kept A u := h
theorem cells_v (x : Value) : (AV.v x).cells = [.v x] := id rfl
theorem cells_sl (sz : Nat) (xs : List AV) : (AV.sl sz xs).cells = [.sl sz xs] := id rfl
theorem cells_agg (xs : List AV) : (AV.agg xs).cells = xs := id rfl
theorem cells_ptr (i o : Nat) : (AV.ptr i o).cells = [.ptr i o] := id rfl
theorem cells_mp (i : Nat) : (AV.mp i).cells = [.mp i] := id rfl
theorem cells_clo (f : FuncId) (xs : List AV) : (AV.clo f xs).cells = [.clo f xs] := id rfl
theorem cells_any  : (AV.any).cells = [.any] := id rfl
theorem awp_loop {P : Program} {T : FuncId → Option Spec} {b : Code} {s : Slots} {h : Heap} {Q : Out → Slots → Heap → Prop} (I : Nat → Slots → Heap → Prop) (n : Nat) (s1 : Slots)
   (h0 : Le s s1) (h1 : I n s1 h) (round : ∀ n s h, I n s h → awp P T b s h (hid (fun o s' h' => thenO o (hid (kept (∃ m, m < n ∧ ∃ s1, Le s' s1 ∧ I m s1 h') .mk) .mk) (hid (Q o s' h') .mk)) .mk)) : awp P T (.loop b) s h Q := ⟨I, n, ⟨s1, h0, h1⟩, round⟩
section eqs
variable {P : Program} {T : FuncId → Option Spec}
def mvA (t : Nat) : AV → AV
 | .own .. => .alias t
 | .otup .. => .alias t
 | .box _ => .place t 0
 | .iter .. => .any
 | x => x
theorem mv_tmp (s : Slots) (t : Nat) : mv s (.tmp t) = mvA t (s t) := by simp only [mv, mvA]; cases s t <;> rfl
theorem mv_const (s : Slots) (x : Value) : mv s (.const x) = val (cst x) := id rfl
theorem mv_func (s : Slots) (f : FuncId) : mv s (.func f) = .clo f [] := id rfl
def tkA (s : Slots) (t : Nat) : AV → AV × Slots
 | .own m e sz xs => (.own m e sz xs, set s t .any)
 | .alias k => tkAl s k (s k)
 | .part k i => tkPart s k i (s k)
 | .otup .. => (.any, s)
 | .box _ => (.place t 0, s)
 | .iter .. => (.any, s)
 | x => (x, s)
theorem tk_tmp (s : Slots) (t : Nat) : tk s (.tmp t) = tkA s t (s t) := by simp only [tk, tkA]; cases s t <;> rfl
theorem tk_const (s : Slots) (x : Value) : tk s (.const x) = (val (cst x), s) := id rfl
theorem tk_func (s : Slots) (f : FuncId) : tk s (.func f) = (.clo f [], s) := id rfl
def frzA (s : Slots) (t : Nat) : AV → AV × Slots
 | .own _ e sz xs => (.sl sz xs, set s t (.own false e sz xs))
 | .alias k => frzAl s k (s k)
 | x => (val x, s)
theorem frz_tmp (s : Slots) (t : Nat) : frz s (.tmp t) = frzA s t (s t) := by simp only [frz, frzA]; cases s t <;> rfl
theorem frz_const (s : Slots) (x : Value) : frz s (.const x) = (val (cst x), s) := id rfl
theorem frz_func (s : Slots) (f : FuncId) : frz s (.func f) = (.clo f [], s) := id rfl
theorem frzs_nil (s : Slots) : frzs s [] = ([], s) := id rfl
theorem frzs_cons (s : Slots) (o : Operand) (r : List Operand) : frzs s (o :: r) = ((frz s o).1 :: (frzs (frz s o).2 r).1, (frzs (frz s o).2 r).2) := id rfl
def escQ (s : Slots) (h : Heap) (k o : Nat) : AV → AV × Slots × Heap
 | .box cs => (.ptr h.length o, set s k (.ptr h.length 0), h ++ [.cells cs])
 | .ptr i o0 => (.ptr i (o0 + o), s, h)
 | _ => (.any, s, h)
def escX (s : Slots) (h : Heap) (t : Nat) : AV → AV × Slots × Heap
 | .box cs => (.ptr h.length 0, set s t (.ptr h.length 0), h ++ [.cells cs])
 | .place k o => escQ s h k o (s k)
 | x => ((frzA s t x).1, (frzA s t x).2, h)
theorem esc_tmp (s : Slots) (h : Heap) (t : Nat) : esc s h (.tmp t) = escX s h t (s t) := by
 simp only [esc, escX, escA, frz_tmp]
 cases s t <;> first
   | rfl
   | (rename_i k o
      simp only [escP, escQ, frzA]
      cases s k <;> rfl)
theorem escX_place (s : Slots) (h : Heap) (t k o : Nat) : escX s h t (.place k o) = escQ s h k o (s k) := id rfl
theorem escQ_box (s : Slots) (h : Heap) (k o : Nat) (cs : List AV) : escQ s h k o (.box cs) = (.ptr h.length o, set s k (.ptr h.length 0), h ++ [.cells cs]) := id rfl
theorem escQ_ptr (s : Slots) (h : Heap) (k o i o0 : Nat) : escQ s h k o (.ptr i o0) = (.ptr i (o0 + o), s, h) := id rfl
theorem tkA_box (s : Slots) (t : Nat) (cs : List AV) : tkA s t (.box cs) = (.place t 0, s) := id rfl
theorem tkA_place (s : Slots) (t k o : Nat) : tkA s t (.place k o) = (.place k o, s) := id rfl
theorem esc_const (s : Slots) (h : Heap) (x : Value) : esc s h (.const x) = (val (cst x), s, h) := id rfl
theorem esc_func (s : Slots) (h : Heap) (f : FuncId) : esc s h (.func f) = (.clo f [], s, h) := id rfl
theorem escs_nil (s : Slots) (h : Heap) : escs s h [] = ([], s, h) := id rfl
theorem escs_cons (s : Slots) (h : Heap) (o : Operand) (r : List Operand) : escs s h (o :: r) = ((esc s h o).1 :: (escs (esc s h o).2.1 (esc s h o).2.2 r).1, (escs (esc s h o).2.1 (esc s h o).2.2 r).2) := id rfl
theorem escX_box (s : Slots) (h : Heap) (t : Nat) (cs : List AV) : escX s h t (.box cs) = (.ptr h.length 0, set s t (.ptr h.length 0), h ++ [.cells cs]) := id rfl
theorem escX_own (s : Slots) (h : Heap) (t : Nat) (m : Bool) (e sz : Nat) (xs : List AV) : escX s h t (.own m e sz xs) = (.sl sz xs, set s t (.own false e sz xs), h) := id rfl
theorem escX_alias (s : Slots) (h : Heap) (t k : Nat) : escX s h t (.alias k) = ((frzAl s k (s k)).1, (frzAl s k (s k)).2, h) := id rfl
theorem escX_v (s : Slots) (h : Heap) (t : Nat) (x : Value) : escX s h t (.v x) = ((.v x), s, h) := id rfl
theorem escX_sl (s : Slots) (h : Heap) (t : Nat) (sz : Nat) (xs : List AV) : escX s h t (.sl sz xs) = ((.sl sz xs), s, h) := id rfl
theorem escX_agg (s : Slots) (h : Heap) (t : Nat) (xs : List AV) : escX s h t (.agg xs) = ((.agg xs), s, h) := id rfl
theorem escX_tup (s : Slots) (h : Heap) (t : Nat) (xs : List AV) : escX s h t (.tup xs) = ((.tup xs), s, h) := id rfl
theorem escX_eptr (s : Slots) (h : Heap) (t : Nat) (xs : List AV) : escX s h t (.eptr xs) = ((.eptr xs), s, h) := id rfl
theorem escX_ptr (s : Slots) (h : Heap) (t : Nat) (i o : Nat) : escX s h t (.ptr i o) = ((.ptr i o), s, h) := id rfl
theorem escX_mp (s : Slots) (h : Heap) (t : Nat) (i : Nat) : escX s h t (.mp i) = ((.mp i), s, h) := id rfl
theorem escX_clo (s : Slots) (h : Heap) (t : Nat) (f : FuncId) (xs : List AV) : escX s h t (.clo f xs) = ((.clo f xs), s, h) := id rfl
theorem escX_any (s : Slots) (h : Heap) (t : Nat)  : escX s h t .any = (.any, s, h) := id rfl
theorem ev_tmp (s : Slots) (t : Nat) : ev s (.tmp t) = s t := id rfl
theorem ev_const (s : Slots) (x : Value) : ev s (.const x) = cst x := id rfl
theorem ev_func (s : Slots) (f : FuncId) : ev s (.func f) = .clo f [] := id rfl
theorem mvA_own (t : Nat) (m : Bool) (e sz : Nat) (xs : List AV) : mvA t (.own m e sz xs) = .alias t := id rfl
theorem mvA_otup (t i : Nat) (m : Bool) (e sz : Nat) (xs rest : List AV) : mvA t (.otup i m e sz xs rest) = .alias t := id rfl
theorem mvA_part (t k i : Nat) : mvA t (.part k i) = .part k i := id rfl
theorem tkA_part (s : Slots) (t k i : Nat) : tkA s t (.part k i) = tkPart s k i (s k) := id rfl
theorem tkPart_otup (s : Slots) (k i i' : Nat) (m : Bool) (e sz : Nat) (xs rest : List AV) : tkPart s k i (.otup i' m e sz xs rest) = bif i' == i then (.own m e sz xs, put s k (.tup rest)) else (.any, s) := by
 by_cases h : i' = i
 · simp [tkPart, h]
 · have h' : (i' == i) = false := by simpa using h
   simp [tkPart, h, h']
theorem mvA_box (t : Nat) (xs : List AV) : mvA t (.box xs) = .place t 0 := id rfl
theorem mvA_alias (t k : Nat) : mvA t (.alias k) = .alias k := id rfl
theorem mvA_place (t k o : Nat) : mvA t (.place k o) = .place k o := id rfl
theorem mvA_elt (t k sz i o : Nat) : mvA t (.elt k sz i o) = .elt k sz i o := id rfl
theorem tkA_own (s : Slots) (t : Nat) (m : Bool) (e sz : Nat) (xs : List AV) : tkA s t (.own m e sz xs) = (.own m e sz xs, set s t .any) := id rfl
theorem tkA_alias (s : Slots) (t k : Nat) : tkA s t (.alias k) = tkAl s k (s k) := id rfl
theorem tkAl_own (s : Slots) (k : Nat) (m : Bool) (e sz : Nat) (xs : List AV) : tkAl s k (.own m e sz xs) = (.own m e sz xs, put s k .any) := id rfl
theorem frzA_own (s : Slots) (t : Nat) (m : Bool) (e sz : Nat) (xs : List AV) : frzA s t (.own m e sz xs) = (.sl sz xs, set s t (.own false e sz xs)) := id rfl
theorem frzA_alias (s : Slots) (t k : Nat) : frzA s t (.alias k) = frzAl s k (s k) := id rfl
theorem frzAl_own (s : Slots) (k : Nat) (m : Bool) (e sz : Nat) (xs : List AV) : frzAl s k (.own m e sz xs) = (.sl sz xs, set s k (.own false e sz xs)) := id rfl
theorem look_alias (s : Slots) (k : Nat) : look s (.alias k) = lookAl (s k) := id rfl
theorem lookAl_own (m : Bool) (e sz : Nat) (xs : List AV) : lookAl (.own m e sz xs) = .sl sz xs := id rfl
theorem look_own (s : Slots) (m : Bool) (e sz : Nat) (xs : List AV) : look s (.own m e sz xs) = .sl sz xs := id rfl
theorem cst_int (k : IntKind) (n : Int) : cst (.int k n) = .v (.int k n) := id rfl
theorem cst_bool (b : Bool) : cst (.bool b) = .v (.bool b) := id rfl
theorem cst_string (b : ByteArray) : cst (.string b) = .v (.string b) := id rfl
theorem cst_nil : cst (.slice none 0 0) = .v (.slice none 0 0) := id rfl
theorem cst_nilp : cst (.pointer none) = .v (.pointer none) := id rfl
theorem cst_nilm : cst (.map none) = .v (.map none) := id rfl
theorem mvA_iter (t i n : Nat) (l : List Nat) (c : Nat) : mvA t (.iter i n l c) = .any := id rfl
theorem tkA_iter (s : Slots) (t i n : Nat) (l : List Nat) (c : Nat) : tkA s t (.iter i n l c) = (.any, s) := id rfl
theorem mvA_v (t : Nat) (x : Value) : mvA t (.v x) = (.v x) := id rfl
theorem tkA_v (s : Slots) (t : Nat) (x : Value) : tkA s t (.v x) = ((.v x), s) := id rfl
theorem frzA_v (s : Slots) (t : Nat) (x : Value) : frzA s t (.v x) = ((.v x), s) := id rfl
theorem look_v (s : Slots) (x : Value) : look s (.v x) = (.v x) := id rfl
@[simp] theorem val_v (x : Value) : val (.v x) = (.v x) := id rfl
theorem res1_v (x : Value) : res1 (.v x) = (.v x) := id rfl
theorem mvA_sl (t : Nat) (sz : Nat) (xs : List AV) : mvA t (.sl sz xs) = (.sl sz xs) := id rfl
theorem tkA_sl (s : Slots) (t : Nat) (sz : Nat) (xs : List AV) : tkA s t (.sl sz xs) = ((.sl sz xs), s) := id rfl
theorem frzA_sl (s : Slots) (t : Nat) (sz : Nat) (xs : List AV) : frzA s t (.sl sz xs) = ((.sl sz xs), s) := id rfl
theorem look_sl (s : Slots) (sz : Nat) (xs : List AV) : look s (.sl sz xs) = (.sl sz xs) := id rfl
@[simp] theorem val_sl (sz : Nat) (xs : List AV) : val (.sl sz xs) = (.sl sz xs) := id rfl
theorem res1_sl (sz : Nat) (xs : List AV) : res1 (.sl sz xs) = (.sl sz xs) := id rfl
theorem mvA_agg (t : Nat) (xs : List AV) : mvA t (.agg xs) = (.agg xs) := id rfl
theorem tkA_agg (s : Slots) (t : Nat) (xs : List AV) : tkA s t (.agg xs) = ((.agg xs), s) := id rfl
theorem frzA_agg (s : Slots) (t : Nat) (xs : List AV) : frzA s t (.agg xs) = ((.agg xs), s) := id rfl
theorem look_agg (s : Slots) (xs : List AV) : look s (.agg xs) = (.agg xs) := id rfl
@[simp] theorem val_agg (xs : List AV) : val (.agg xs) = (.agg xs) := id rfl
theorem res1_agg (xs : List AV) : res1 (.agg xs) = (.agg xs) := id rfl
theorem mvA_tup (t : Nat) (xs : List AV) : mvA t (.tup xs) = (.tup xs) := id rfl
theorem tkA_tup (s : Slots) (t : Nat) (xs : List AV) : tkA s t (.tup xs) = ((.tup xs), s) := id rfl
theorem frzA_tup (s : Slots) (t : Nat) (xs : List AV) : frzA s t (.tup xs) = ((.tup xs), s) := id rfl
theorem look_tup (s : Slots) (xs : List AV) : look s (.tup xs) = (.tup xs) := id rfl
@[simp] theorem val_tup (xs : List AV) : val (.tup xs) = (.tup xs) := id rfl
theorem res1_tup (xs : List AV) : res1 (.tup xs) = (.tup xs) := id rfl
theorem mvA_eptr (t : Nat) (xs : List AV) : mvA t (.eptr xs) = (.eptr xs) := id rfl
theorem tkA_eptr (s : Slots) (t : Nat) (xs : List AV) : tkA s t (.eptr xs) = ((.eptr xs), s) := id rfl
theorem frzA_eptr (s : Slots) (t : Nat) (xs : List AV) : frzA s t (.eptr xs) = ((.eptr xs), s) := id rfl
theorem look_eptr (s : Slots) (xs : List AV) : look s (.eptr xs) = (.eptr xs) := id rfl
@[simp] theorem val_eptr (xs : List AV) : val (.eptr xs) = (.eptr xs) := id rfl
theorem res1_eptr (xs : List AV) : res1 (.eptr xs) = (.eptr xs) := id rfl
theorem mvA_ptr (t : Nat) (i o : Nat) : mvA t (.ptr i o) = (.ptr i o) := id rfl
theorem tkA_ptr (s : Slots) (t : Nat) (i o : Nat) : tkA s t (.ptr i o) = ((.ptr i o), s) := id rfl
theorem frzA_ptr (s : Slots) (t : Nat) (i o : Nat) : frzA s t (.ptr i o) = ((.ptr i o), s) := id rfl
theorem look_ptr (s : Slots) (i o : Nat) : look s (.ptr i o) = (.ptr i o) := id rfl
@[simp] theorem val_ptr (i o : Nat) : val (.ptr i o) = (.ptr i o) := id rfl
theorem res1_ptr (i o : Nat) : res1 (.ptr i o) = (.ptr i o) := id rfl
theorem mvA_mp (t : Nat) (i : Nat) : mvA t (.mp i) = (.mp i) := id rfl
theorem tkA_mp (s : Slots) (t : Nat) (i : Nat) : tkA s t (.mp i) = ((.mp i), s) := id rfl
theorem frzA_mp (s : Slots) (t : Nat) (i : Nat) : frzA s t (.mp i) = ((.mp i), s) := id rfl
theorem look_mp (s : Slots) (i : Nat) : look s (.mp i) = (.mp i) := id rfl
@[simp] theorem val_mp (i : Nat) : val (.mp i) = (.mp i) := id rfl
theorem res1_mp (i : Nat) : res1 (.mp i) = (.mp i) := id rfl
theorem mvA_clo (t : Nat) (f : FuncId) (xs : List AV) : mvA t (.clo f xs) = (.clo f xs) := id rfl
theorem tkA_clo (s : Slots) (t : Nat) (f : FuncId) (xs : List AV) : tkA s t (.clo f xs) = ((.clo f xs), s) := id rfl
theorem frzA_clo (s : Slots) (t : Nat) (f : FuncId) (xs : List AV) : frzA s t (.clo f xs) = ((.clo f xs), s) := id rfl
theorem look_clo (s : Slots) (f : FuncId) (xs : List AV) : look s (.clo f xs) = (.clo f xs) := id rfl
@[simp] theorem val_clo (f : FuncId) (xs : List AV) : val (.clo f xs) = (.clo f xs) := id rfl
theorem res1_clo (f : FuncId) (xs : List AV) : res1 (.clo f xs) = (.clo f xs) := id rfl
theorem mvA_any (t : Nat)  : mvA t .any = .any := id rfl
theorem tkA_any (s : Slots) (t : Nat)  : tkA s t .any = (.any, s) := id rfl
theorem frzA_any (s : Slots) (t : Nat)  : frzA s t .any = (.any, s) := id rfl
theorem look_any (s : Slots)  : look s .any = .any := id rfl
@[simp] theorem val_any  : val .any = .any := id rfl
theorem res1_any  : res1 .any = .any := id rfl
theorem res1_own (m : Bool) (e sz : Nat) (xs : List AV) : res1 (.own m e sz xs) = .own m e sz xs := id rfl
theorem awp_skip (s : Slots) (h : Heap) (Q : Out → Slots → Heap → Prop) : awp P T .skip s h Q = Q .normal s h := id rfl
theorem awp_region (i : Nat) (l : List Oper) (s : Slots) (h : Heap) (Q : Out → Slots → Heap → Prop) : awp P T (.region i (zQa l) false) s h Q = awpOps P T (zQa l) l s h (hid (Q .normal) .mk) := id rfl
theorem awp_seq (a b : Code) (s : Slots) (h : Heap) (Q : Out → Slots → Heap → Prop) : awp P T (.seq a b) s h Q = awp P T a s h (hid (fun o s' h' => thenO o (hid (awp P T b s' h' Q) .mk) (hid (Q o s' h') .mk)) .mk) := id rfl
theorem awp_cond (c : Operand) (a b : Code) (s : Slots) (h : Heap) (Q : Out → Slots → Heap → Prop) : awp P T (.cond c a b) s h Q = condA (ev s c) (hid (awp P T a s h Q) .mk) (hid (awp P T b s h Q) .mk) := id rfl
theorem awp_block (i : Nat) (b : Code) (s : Slots) (h : Heap) (Q : Out → Slots → Heap → Prop) : awp P T (.block i b) s h Q = awp P T b s h (hid (fun o s' h' => Q (blockO i o) s' h') .mk) := id rfl
theorem awp_scope (b : Code) (s : Slots) (h : Heap) (Q : Out → Slots → Heap → Prop) : awp P T (.scope b) s h Q = awp P T b s h Q := id rfl
theorem awp_label (i : Nat) (s : Slots) (h : Heap) (Q : Out → Slots → Heap → Prop) : awp P T (.label i) s h Q = Q .normal s h := id rfl
theorem awp_exit (i : Nat) (s : Slots) (h : Heap) (Q : Out → Slots → Heap → Prop) : awp P T (.exit i) s h Q = Q (.exit i) s h := id rfl
theorem awp_ret (s : Slots) (h : Heap) (Q : Out → Slots → Heap → Prop) : awp P T .ret s h Q = Q .ret s h := id rfl
theorem thenO_n (A B : Prop) (u : Tg A) : thenO .normal (hid A u) B = A := id rfl
theorem thenO_e (i : Nat) (A B : Prop) (u : Tg B) : thenO (.exit i) A (hid B u) = B := id rfl
theorem thenO_r (A B : Prop) (u : Tg B) : thenO .ret A (hid B u) = B := id rfl
theorem blockO_n (i : Nat) : blockO i .normal = .normal := id rfl
theorem blockO_r (i : Nat) : blockO i .ret = .ret := id rfl
theorem blockO_e (i j : Nat) : blockO i (.exit j) = bif j == i then .normal else .exit j := by
 by_cases h : j = i
 · simp [blockO, h]
 · have h' : (j == i) = false := by simpa using h
   simp [blockO, h, h']
theorem endO_n (A : Prop) (u : Tg A) : endO .normal (hid A u) = A := id rfl
theorem endO_r (A : Prop) (u : Tg A) : endO .ret (hid A u) = A := id rfl
theorem awpOps_nil (ops : Array Oper) (s : Slots) (h : Heap) (K : Slots → Heap → Prop) : awpOps P T ops [] s h K = K s h := id rfl
theorem awpOps_cons (ops : Array Oper) (o : Oper) (r : List Oper) (s : Slots) (h : Heap) (K : Slots → Heap → Prop) : awpOps P T ops (o :: r) s h K = awpAt P T ops o s h (hid (fun s' h' => awpOps P T ops r s' h' K) .mk) := id rfl
theorem awpAt_none (ops : Array Oper) (d : Option Tmp) (op : Op) (ty : TypeId) (pos : String) (af : Array Edge) (s : Slots) (h : Heap) (K : Slots → Heap → Prop) :
   awpAt P T ops ⟨d, op, ty, pos, af, none⟩ s h K = awpOp P T op s h (hid (fun x s' h' => K (putD d s' x) h') .mk) := id rfl
theorem awpAt_some (ops : Array Oper) (d : Option Tmp) (op : Op) (ty : TypeId) (pos : String) (af : Array Edge) (j : Nat) (want : Bool) (s : Slots) (h : Heap) (K : Slots → Heap → Prop) :
   awpAt P T ops ⟨d, op, ty, pos, af, some (j, want)⟩ s h K = awpGuard want ((ops[j]?).bind (·.dst)) s (hid (fun s => awpOp P T op s h (hid (fun x s' h' => K (putD d s' x) h') .mk)) .mk) (hid (fun s => K (putD d s (.tup [])) h) .mk) := id rfl
theorem awpGuard_some (want : Bool) (d : Nat) (s : Slots) (A B : Slots → Prop) : awpGuard want (some d) s A B = guardA want d (s d) s A B := id rfl
theorem guardA_tup (want : Bool) (d : Nat) (vs : List AV) (s : Slots) (A B : Slots → Prop) : guardA want d (.tup vs) s A B = B s := id rfl
theorem guardA_tt (d : Nat) (s : Slots) (A B : Slots → Prop) : guardA true d (.v (.bool true)) s A B = A (set s d (.v (.bool true))) := by simp [guardA]
theorem guardA_tf (d : Nat) (s : Slots) (A B : Slots → Prop) : guardA true d (.v (.bool false)) s A B = B (set s d (.v (.bool false))) := by simp [guardA]
theorem guardA_ft (d : Nat) (s : Slots) (A B : Slots → Prop) : guardA false d (.v (.bool true)) s A B = B (set s d (.v (.bool true))) := by simp [guardA]
theorem guardA_ff (d : Nat) (s : Slots) (A B : Slots → Prop) : guardA false d (.v (.bool false)) s A B = A (set s d (.v (.bool false))) := by simp [guardA]
theorem putD_some (d : Nat) (s : Slots) (x : AV) : putD (some d) s x = put s d x := id rfl
theorem putD_none (s : Slots) (x : AV) : putD none s x = s := id rfl
theorem condA_t (A B : Prop) (u : Tg A) : condA (.v (.bool true)) (hid A u) B = A := by simp [condA, hid]
theorem condA_f (A B : Prop) (u : Tg B) : condA (.v (.bool false)) A (hid B u) = B := by simp [condA, hid]
theorem cond_intro {b : Bool} {A B : Prop} {u : Tg A} {u' : Tg B} (h1 : b = true → A) (h2 : b = false → B) : condA (.v (.bool b)) (hid A u) (hid B u') := ⟨h1, h2⟩
variable (s : Slots) (h : Heap) (K : AV → Slots → Heap → Prop)
theorem awpOp_move (x : Operand) : awpOp P T (.move x) s h K = K (mv s x) s h := id rfl
theorem awpOp_assign (x : Operand) : awpOp P T (.assign x) s h K = K (tk s x).1 (tk s x).2 h := id rfl
theorem awpOp_pick (c a b : Operand) : awpOp P T (.pick c a b) s h K = condA (ev s c) (hid (K (val (ev s a)) s h) .mk) (hid (K (val (ev s b)) s h) .mk) := id rfl
theorem awpOp_bin (op : BinOp) (t t' : TypeId) (x y : Operand) : awpOp P T (.binOp op t x y t') s h K = awpBinX P op t (look s (ev s x)) (look s (ev s y)) (hid (fun v => K (.v v) s h) .mk) := id rfl
theorem binX_int (op : BinOp) (t : TypeId) (x : AV) (k : IntKind) (n : Int) (KV : Value → Prop) : awpBinX P op t x (.v (.int k n)) KV = awpBin P op t x (.v (.int k n)) KV := id rfl
theorem binX_bool (op : BinOp) (t : TypeId) (x : AV) (b : Bool) (KV : Value → Prop) : awpBinX P op t x (.v (.bool b)) KV = awpBin P op t x (.v (.bool b)) KV := id rfl
theorem binX_str (op : BinOp) (t : TypeId) (x : AV) (b : ByteArray) (KV : Value → Prop) : awpBinX P op t x (.v (.string b)) KV = awpBin P op t x (.v (.string b)) KV := id rfl
theorem eqK_eql (b : Bool) (KV : Value → Prop) : eqK .eql b KV = KV (.bool b) := id rfl
theorem eqK_neq (b : Bool) (KV : Value → Prop) : eqK .neq b KV = KV (.bool (!b)) := id rfl
theorem nilSl_nil (KB : Bool → Prop) : nilSl (.v (.slice none 0 0)) KB = KB true := id rfl
theorem nilSl_cons (sz : Nat) (x : AV) (xs : List AV) (KB : Bool → Prop) : nilSl (.sl sz (x :: xs)) KB = KB false := id rfl
theorem nilPt_nil (KB : Bool → Prop) : nilPt (.v (.pointer none)) KB = KB true := id rfl
theorem nilPt_ptr (i o : Nat) (KB : Bool → Prop) : nilPt (.ptr i o) KB = KB false := id rfl
theorem nilPt_eptr (cs : List AV) (KB : Bool → Prop) : nilPt (.eptr cs) KB = KB false := id rfl
theorem nilMp_nil (KB : Bool → Prop) : nilMp (.v (.map none)) KB = KB true := id rfl
theorem nilMp_mp (i : Nat) (KB : Bool → Prop) : nilMp (.mp i) KB = KB false := id rfl
theorem nilFn_nil (KB : Bool → Prop) : nilFn (.v .nilFunc) KB = KB true := id rfl
theorem nilFn_clo (f : FuncId) (xs : List AV) (KB : Bool → Prop) : nilFn (.clo f xs) KB = KB false := id rfl
theorem nil_slice {op : BinOp} {t e : TypeId} {x : AV} {KV : Value → Prop} (ht : P.underlying t = some (.slice e)) (hK : nilSl x fun b => eqK op b KV) : awpBinX P op t x (.v (.slice none 0 0)) KV := ⟨by simp [ht], hK⟩
theorem nilSl_sl {sz : Nat} {xs : List AV} {KB : Bool → Prop} (h : ∀ b, (b = true → xs = []) → KB b) : nilSl (.sl sz xs) KB := by
 cases xs with
 | nil => exact fun b => h b fun _ => rfl
 | cons x xs => exact h false fun e => by cases e
theorem nil_pointer {op : BinOp} {t e : TypeId} {x : AV} {KV : Value → Prop} (ht : P.underlying t = some (.pointer e)) (hK : nilPt x fun b => eqK op b KV) : awpBinX P op t x (.v (.pointer none)) KV := ⟨by simp [ht], hK⟩
theorem nil_map {op : BinOp} {t k e : TypeId} {x : AV} {KV : Value → Prop} (ht : P.underlying t = some (.map k e)) (hK : nilMp x fun b => eqK op b KV) : awpBinX P op t x (.v (.map none)) KV := ⟨by simp [ht], hK⟩
theorem awpOp_conv (src dst : TypeId) (x : Operand) : awpOp P T (.convert src dst x) s h K = awpCvX P src dst (tk s x) (look s (ev s x)) (ev s x) s (hid (fun v s' => K v s' h) .mk) := id rfl
theorem cvX_str {src dst : TypeId} (hd : P.underlying dst = some .string) (p : AV × Slots) (lk x : AV) (s : Slots) (K : AV → Slots → Prop) : awpCvX P src dst p lk x s K = awpStrOf P src lk (hid (fun v => K v s) .mk) := by unfold awpCvX; rw [hd]; rfl
theorem strOf_sl {src : TypeId} {xs : List AV} {K : AV → Prop} (hb : bytesT P src = true) (l : List UInt8) (hx : xs = l.map encB) (hK : K (.v (.string ⟨l.toArray⟩))) : awpStrOf P src (.sl 1 xs) K := ⟨rfl, hb, l, hx, hK⟩
theorem cvX_bytes {src dst : TypeId} {b : ByteArray} {p : AV × Slots} {x : AV} {s : Slots} {K : AV → Slots → Prop} (hb : bytesT P dst = true) (hs : P.underlying src = some .string) (hl : b.size ≤ maxLen) (hK : K (.sl 1 (b.data.toList.map encB)) s) :
   awpCvX P src dst p (.v (.string b)) x s K := by
 have h0 : ∃ e, P.underlying dst = some (.slice e) := by
   unfold bytesT at hb
   split at hb
   · exact ⟨_, by assumption⟩
   · cases hb
 obtain ⟨e, he⟩ := h0
 unfold awpCvX
 rw [he]
 exact ⟨hb, hs, hl, hK⟩
theorem cvX_int {src dst : TypeId} {k : IntKind} (hd : P.underlying dst = some (.int k)) (p : AV × Slots) (k' : IntKind) (n : Int) (x : AV) (s : Slots) (K : AV → Slots → Prop) : awpCvX P src dst p (.v (.int k' n)) x s K = awpCv P src dst p x s K := by unfold awpCvX; rw [hd]
theorem cvi {src dst : TypeId} {k k' : IntKind} {d : TypeDesc} (hs : P.underlying src = some d) (hd : P.underlying dst = some (.int k')) (n : Int) (s' s : Slots) (K : AV → Slots → Prop) :
   awpCvX P src dst (.v (.int k n), s') (.v (.int k n)) (.v (.int k n)) s K = K (.v (.int k' (k'.wrap n))) s := by
 rw [cvX_int hd]
 simp [awpCv, awpConv, hs, hd]
theorem bui_copy (t tx : TypeId) (tsA : Array TypeId) (x y : Operand) : awpBui P .copy [t, tx] tsA [x, y] s h K = awpCopy P t (slotOf s x) (look s (ev s y)) s (hid (fun v s' => K v s' h) .mk) := id rfl
def slotA (t : Nat) : AV → Option Nat
 | .own .. => some t
 | .alias k => some k
 | _ => none
theorem slotOf_tmp (s : Slots) (t : Nat) : slotOf s (.tmp t) = slotA t (s t) := by simp only [slotOf, slotA]; cases s t <;> rfl
theorem slotA_own (t : Nat) (m : Bool) (e sz : Nat) (xs : List AV) : slotA t (.own m e sz xs) = some t := id rfl
theorem slotA_alias (t k : Nat) : slotA t (.alias k) = some k := id rfl
theorem awpCopy_some {t e : TypeId} (he : elemSz P t = some (e, 1)) (k : Nat) (y : AV) (s : Slots) (K : AV → Slots → Prop) : awpCopy P t (some k) y s K = copyTo k (s k) y s K := by
 simp only [awpCopy, he, true_and]
theorem copyTo_sl (k e : Nat) (xs ys : List AV) (s : Slots) (K : AV → Slots → Prop) : copyTo k (.own true e 1 xs) (.sl 1 ys) s K = K (.v (.int .i64 (min ys.length xs.length : Nat))) (set s k (.own true e 1 (ys.take xs.length ++ xs.drop ys.length))) := by
 simp only [copyTo, true_and]
theorem awpOp_index (t : TypeId) (x i : Operand) : awpOp P T (.index t x i) s h K = awpIndex P t (ev s x) (ev s i) (hid (fun v => K v s h) .mk) := id rfl
theorem index_arr {t e : TypeId} {len : Nat} {k k2 : IntKind} {n : Int} {cs : List AV} {x : Value} {K : AV → Prop} (ht : P.underlying t = some (.array len e)) (he : P.underlying e = some (.int k2)) (hs : (P.info? e).map (·.size) = some 1) (h0 : 0 ≤ n) (h1 : n < len)
   (hx : cs[n.toNat]? = some (.v x)) (hK : K (.v x)) : awpIndex P t (.agg cs) (.v (.int k n)) K := by
 simp only [awpIndex, ht, hx]
 exact ⟨⟨k2, he⟩, hs, ⟨h0, h1⟩, hK⟩
theorem index_str {t : TypeId} {b : ByteArray} {k : IntKind} {n : Int} {K : AV → Prop} (ht : P.underlying t = some .string) (h0 : 0 ≤ n) (h1 : n < b.size) (hK : K (.v (.int .u8 (b.data.toList.getD n.toNat 0).toNat))) : awpIndex P t (.v (.string b)) (.v (.int k n)) K := ⟨ht, ⟨h0, h1⟩, hK⟩
theorem idxX_sl (s : Slots) (e : Option (TypeId × Nat)) (sz : Nat) (xs : List AV) (x i : AV) (K : AV → Prop) : awpIdxX s e none (.sl sz xs) x i K = awpIdx e x i K := id rfl
theorem idxX_v (s : Slots) (e : Option (TypeId × Nat)) (v : Value) (x i : AV) (K : AV → Prop) : awpIdxX s e none (.v v) x i K = awpIdx e x i K := id rfl
theorem idxX_alias (s : Slots) (e : Option (TypeId × Nat)) (k : Nat) (x i : AV) (K : AV → Prop) : awpIdxX s e none (.alias k) x i K = awpIdxO e k (s k) i K := id rfl
theorem idxO_intro {e k sz : Nat} {m : Bool} {e' : TypeId} {xs : List AV} {q : IntKind} {n : Int} {K : AV → Prop} (h0 : 0 ≤ n) (h1 : n < xs.length) (hK : K (.elt k sz n.toNat 0)) : awpIdxO (some (e, sz)) k (.own m e' sz xs) (.v (.int q n)) K := ⟨rfl, ⟨h0, h1⟩, hK⟩
theorem place_elt (s : Slots) (h : Heap) (k sz i o : Nat) (K : List AV → Prop) : atPlace s h (.elt k sz i o) K = eltA sz i o (s k) K := id rfl
theorem eltA_intro {sz i o : Nat} {m : Bool} {e : TypeId} {xs : List AV} {x : AV} {K : List AV → Prop} (hx : xs[i]? = some x) (hK : K (x.cells.drop o)) : eltA sz i o (.own m e sz xs) K := by
 have hi : i < xs.length := by
   rcases zMa i xs.length with h | h
   · exact h
   · rw [zJa h] at hx; cases hx
 exact ⟨rfl, hi, fun y hy => by rw [hx] at hy; cases hy; exact hK⟩
theorem nc_elt (k sz i o : Nat) (K : AV → Prop) : awpNc (.elt k sz i o) K = K (.elt k sz i o) := id rfl
theorem fa_elt (off t k sz i o : Nat) (K : AV → Prop) : awpFa (some (off, t)) (.elt k sz i o) K = K (.elt k sz i (o + off)) := id rfl
theorem store_elt {n k sz i o : Nat} {x y : AV} {s : Slots} {h : Heap} {K : AV → Slots → Heap → Prop} (e : TypeId) (xs : List AV) (hs : s k = .own true e sz xs) (hy : xs[i]? = some y) (h1 : solid x = true) (h2 : n = x.cells.length) (h3 : o + n ≤ sz)
   (hre : (reCell y (putCells y.cells o x.cells)).cells = putCells y.cells o x.cells) (hK : K .any (set s k (.own true e sz (xs.set i (reCell y (putCells y.cells o x.cells))))) h) : awpStore (some n) (.elt k sz i o) x s h K := by
 refine ⟨h1, by rw [h2], ?_⟩
 simp only [hs, awpStoreE]
 have hi : i < xs.length := by
   rcases zMa i xs.length with h | h
   · exact h
   · rw [zJa h] at hy; cases hy
 exact ⟨trivial, by omega, hi, fun z hz => by rw [hy] at hz; cases hz; exact ⟨hre, hK⟩⟩
theorem awpOp_makeMap (t : TypeId) : awpOp P T (.makeMap t none) s h K = K (.mp h.length) s (h ++ [.map [] 0]) := id rfl
theorem awpOp_lookup (t : TypeId) (m k : Operand) (ok : Bool) : awpOp P T (.lookup t m k ok) s h K = awpLookup P t (ev s m) (ev s k) ok h (hid (fun v => K v s h) .mk) := id rfl
theorem awpOp_update (t : TypeId) (m k x : Operand) : awpOp P T (.mapUpdate t m k x) s h K = awpUpdate P t (ev s m) (ev s k) (frz s x).1 h (hid (fun h' => K .any (frz s x).2 h') .mk) := id rfl
theorem awpOp_insert (t : TypeId) (m k x : Operand) : awpOp P T (.insert t m k x) s h K = awpUpdate P t (ev s m) (ev s k) (frz s x).1 h (hid (fun h' => K .any (frz s x).2 h') .mk) := id rfl
theorem awpOp_range (t : TypeId) (m : Operand) : awpOp P T (.range t m) s h K = awpRange P t (ev s m) h (hid (fun v => K v s h) .mk) := id rfl
theorem awpOp_next (t : Nat) : awpOp P T (.next (.tmp t) false) s h K = awpNext (s t) s t h (hid (fun v s' => K v s' h) .mk) := id rfl
theorem awpOp_entry (t : Operand) : awpOp P T (.entry t) s h K = awpEntry (ev s t) h (hid (fun v => K v s h) .mk) := id rfl
theorem awpOp_build (t : TypeId) (l : List (Nat × Operand)) : awpOp P T (.build t (zQa l)) s h K = awpBuild P t ((l.map (·.1)).zip (escs s h (l.map (·.2))).1) (hid (fun v => K v (escs s h (l.map (·.2))).2.1 (escs s h (l.map (·.2))).2.2) .mk) := id rfl
theorem bui_delete (t : TypeId) (ts : List TypeId) (tsA : Array TypeId) (m k : Operand) : awpBui P .delete (t :: ts) tsA [m, k] s h K = awpDelete P t (ev s m) (ev s k) h (hid (fun h' => K (.tup []) s h') .mk) := id rfl
theorem bui_clear (t : TypeId) (tsA : Array TypeId) (m : Operand) : awpBui P .clear [t] tsA [m] s h K = awpClearX P t (ev s m) h (hid (fun h' => K (.tup []) s h') .mk) := id rfl
theorem clearX_mp (t i : Nat) (h : Heap) (KH : Heap → Prop) : awpClearX P t (.mp i) h KH = awpClear P t (.mp i) h KH := _root_.id rfl
theorem clearX_osl (t id off n c : Nat) (h : Heap) (KH : Heap → Prop) : awpClearX P t (.osl id off n c) h KH = awpClearS P t id off n h KH := _root_.id rfl
def MapT (P : Program) (t kt et : TypeId) (d : TypeDesc) : Prop := P.underlying t = some (.map kt et) ∧ P.underlying kt = some d
theorem lookup_intro {t kt et : TypeId} {d : TypeDesc} {z : Value} {id : Nat} {kv : Value} {ok : Bool} {h : Heap} {K : AV → Prop} (hm : MapT P t kt et d) (hz : (P.info? et).bind (·.zero) = some z) (es : List Ent) (clock : Nat) (hh : h[id]? = some (.map es clock)) (hk : MapKept.IsKey d kv)
   (hks : ∀ e ∈ es, MapKept.IsKey d e.key) (h1 : ∀ e, mget kv es = some e → K (lookRes ok e.val true)) (h2 : mget kv es = none → K (lookRes ok (cst z) false)) : awpLookup P t (.mp id) (.v kv) ok h K := by
 unfold awpLookup withKey
 simp only [hm.1, hm.2]
 refine ⟨hk, ?_⟩
 unfold withMap
 simp only [hh, hz]
 exact ⟨hks, h1, h2⟩
theorem update_intro {t kt et : TypeId} {d : TypeDesc} {id : Nat} {kv : Value} {x : AV} {h : Heap} {K : Heap → Prop} (hm : MapT P t kt et d) (es : List Ent) (clock : Nat) (hh : h[id]? = some (.map es clock)) (hk : MapKept.IsKey d kv)
   (hks : ∀ e ∈ es, MapKept.IsKey d e.key) (hK : K (h.set id (.map (mput kv x clock es) (mclk kv es clock)))) : awpUpdate P t (.mp id) (.v kv) x h K := by
 unfold awpUpdate withKey
 simp only [hm.1, hm.2]
 refine ⟨hk, ?_⟩
 unfold withObj
 simp only [hh]
 exact ⟨hks, hK⟩
theorem delete_intro {t kt et : TypeId} {d : TypeDesc} {id : Nat} {kv : Value} {h : Heap} {K : Heap → Prop} (hm : MapT P t kt et d) (es : List Ent) (clock : Nat) (hh : h[id]? = some (.map es clock)) (hk : MapKept.IsKey d kv)
   (hks : ∀ e ∈ es, MapKept.IsKey d e.key) (hK : K (h.set id (.map (mdel kv es) clock))) : awpDelete P t (.mp id) (.v kv) h K := by
 unfold awpDelete withKey
 simp only [hm.1, hm.2]
 refine ⟨hk, ?_⟩
 unfold withObj
 simp only [hh]
 exact ⟨hks, hK⟩
theorem mapT_of {t kt et : TypeId} {d : TypeDesc} (hm : MapT P t kt et d) : mapT P t = true := by simp [mapT, hm.1]
theorem clear_intro {t kt et : TypeId} {d : TypeDesc} {id : Nat} {h : Heap} {K : Heap → Prop} (hm : MapT P t kt et d) (es : List Ent) (clock : Nat) (hh : h[id]? = some (.map es clock)) (hK : K (h.set id (.map [] clock))) : awpClear P t (.mp id) h K := by
 refine ⟨mapT_of hm, ?_⟩
 unfold withObj
 simp only [hh]
 exact hK
theorem range_intro {t kt et : TypeId} {d : TypeDesc} {id : Nat} {h : Heap} {K : AV → Prop} (hm : MapT P t kt et d) (es : List Ent) (clock : Nat) (hh : h[id]? = some (.map es clock)) (hK : K (.iter id clock [] clock)) : awpRange P t (.mp id) h K := by
 refine ⟨mapT_of hm, ?_⟩
 unfold withObj
 simp only [hh]
 exact hK
theorem next_intro {id since c0 t : Nat} {seen : List Nat} {s : Slots} {h : Heap} {K : AV → Slots → Prop} (es : List Ent) (clock : Nat) (hh : h[id]? = some (.map es clock)) (hb : ∀ e ∈ es, e.born < since) (hc : since ≤ clock)
   (h1 : leftE es seen = [] → K (.tup [.v (.bool false)]) s) (h2 : ∀ e ∈ leftE es seen, K (.tup [.v (.bool true), .v e.key, e.val]) (set s t (.iter id since (seen ++ [e.born]) clock))) : awpNext (.iter id since seen c0) s t h K := by
 unfold awpNext
 simp only [hh]
 exact ⟨⟨hb, hc⟩, h1, h2⟩
theorem entry_intro {id since : Nat} {seen : List Nat} {h : Heap} {K : AV → Prop} (es : List Ent) (clock : Nat) (e : Ent) (hh : h[id]? = some (.map es clock)) (hf : es.find? (fun x => x.born == e.born) = some e)
   (hK : K (.tup [.v e.key, e.val])) : awpEntry (.iter id since (seen ++ [e.born]) clock) h K := by
 unfold awpEntry
 simp only [hh, List.getLast?_concat]
 exact ⟨trivial, ⟨e, hf⟩, fun e' he' => by rw [hf] at he'; cases he'; exact hK⟩
theorem build_intro {t : TypeId} {places : List (Nat × Nat)} {zs : Array Value} {parts : List (Nat × AV)} {K : AV → Prop} (hf : fieldsAt P t = some places) (hz : (P.info? t).bind (·.zero) = some (.agg zs)) (hp : zs.toList.all plain = true) {cs : List AV}
   (hc : fillA places (zs.toList.map .v) parts = some cs) (hK : K (.agg cs)) : awpBuild P t parts K := by
 unfold awpBuild
 simp only [hf, hz, hc]
 exact ⟨by rw [← Array.all_toList]; exact hp, hK⟩
theorem idxX_some (s : Slots) (e : Option (TypeId × Nat)) (len sz : Nat) (m x i : AV) (K : AV → Prop) : awpIdxX s e (some (len, sz)) m x i K = awpArr len sz m i K := id rfl
theorem awp_draw (i : Nat) (l : List Oper) (s : Slots) (h : Heap) (Q : Out → Slots → Heap → Prop) : awp P T (.region i (zQa l) true) s h Q = awpDraw P T (zQa l) s h (hid (Q .normal) .mk) := id rfl
theorem draw_pub {ops : Array Oper} {s : Slots} {h : Heap} {K : Slots → Heap → Prop} (ks : List Nat) (t : Tree) (hm : P.follows .mixedOrders = true) (hs : Region.noSelect ops = true) (hc : chk P ops t (Array.replicate ops.size false) none = true) (hd : t.deep ≤ ops.size)
   (hK : awpTree P T ops t (pubs s ks) h K) : awpDraw P T ops s h K := ⟨⟨hm, hs⟩, ks, t, K, hc, hd, hK, fun _ _ h => h⟩
theorem draw_intro {ops : Array Oper} {s : Slots} {h : Heap} {K : Slots → Heap → Prop} (t : Tree) (hm : P.follows .mixedOrders = true) (hs : Region.noSelect ops = true) (hc : chk P ops t (Array.replicate ops.size false) none = true) (hd : t.deep ≤ ops.size)
   (hK : awpTree P T ops t s h K) : awpDraw P T ops s h K := ⟨⟨hm, hs⟩, [], t, K, hc, hd, hK, fun _ _ h => h⟩
theorem draw_cont {ops : Array Oper} {s : Slots} {h : Heap} {K : Slots → Heap → Prop} (ks : List Nat) (t : Tree) (C : Slots → Heap → Prop) (hm : P.follows .mixedOrders = true) (hs : Region.noSelect ops = true) (hc : chk P ops t (Array.replicate ops.size false) none = true) (hd : t.deep ≤ ops.size)
   (hK : awpTree P T ops t (pubs s ks) h C) (hC : ∀ s h, C s h → K s h) : awpDraw P T ops s h K := ⟨⟨hm, hs⟩, ks, t, C, hc, hd, hK, hC⟩
theorem pubs_nil (s : Slots) : pubs s [] = s := id rfl
theorem pubs_cons (s : Slots) (k : Nat) (ks : List Nat) : pubs s (k :: ks) = pubs (pub1 s k (s k)) ks := id rfl
theorem pub1_box (s : Slots) (k : Nat) (cs : List AV) : pub1 s k (.box cs) = set s k (.eptr cs) := id rfl
theorem pub1_own (s : Slots) (k : Nat) (m : Bool) (e sz : Nat) (xs : List AV) : pub1 s k (.own m e sz xs) = set s k (.sl sz xs) := id rfl
def treeA (P : Program) (T : FuncId → Option Spec) (ops : Array Oper) (o : Option Oper) (s : Slots) (h : Heap) (K : Slots → Heap → Prop) : Prop :=
 match o with
 | some o => awpAt P T ops o s h K
 | none => False
def treeT (P : Program) (o : Option Oper) (s : Slots) : Prop :=
 match o with
 | some o => takeOk P s o.op
 | none => True
theorem treeA_some (ops : Array Oper) (o : Oper) (s : Slots) (h : Heap) (K : Slots → Heap → Prop) : treeA P T ops (some o) s h K = awpAt P T ops o s h K := id rfl
theorem treeT_some (o : Oper) (s : Slots) : treeT P (some o) s = takeOk P s o.op := id rfl
theorem take_load (s : Slots) (t : TypeId) (p : Operand) : takeOk P s (.load t p) = eptrA (mv s p) := id rfl
theorem take_conv (s : Slots) (t t' : TypeId) (x : Operand) : takeOk P s (.convert t t' x) = takeC (P.underlying t) (ev s x) := id rfl
theorem takeC_int (k : IntKind) (x : AV) : takeC (some (.int k)) x = True := id rfl
theorem takeC_sl (e : TypeId) (x : AV) : takeC (some (.slice e)) x = slA x := id rfl
theorem slA_sl (sz : Nat) (xs : List AV) : slA (.sl sz xs) = True := id rfl
theorem eptrA_eptr (cs : List AV) : eptrA (.eptr cs) = True := id rfl
theorem take_move (s : Slots) (x : Operand) : takeOk P s (.move x) = True := id rfl
theorem take_pick (s : Slots) (c x y : Operand) : takeOk P s (.pick c x y) = True := id rfl
theorem take_bin (s : Slots) (op : BinOp) (t : TypeId) (x y : Operand) (t' : TypeId) : takeOk P s (.binOp op t x y t') = True := id rfl
theorem take_un (s : Slots) (op : UnOp) (t : TypeId) (x : Operand) : takeOk P s (.unOp op t x) = True := id rfl
theorem take_ext (s : Slots) (x : Operand) (i : Nat) : takeOk P s (.extract x i) = True := id rfl
theorem take_nc (s : Slots) (x : Operand) : takeOk P s (.nilCheck x) = True := id rfl
theorem take_fa (s : Slots) (t : TypeId) (x : Operand) (f : Nat) : takeOk P s (.fieldAddr t x f) = True := id rfl
theorem take_idx (s : Slots) (t : TypeId) (x i : Operand) : takeOk P s (.indexAddr t x i) = True := id rfl
theorem take_index (s : Slots) (t : TypeId) (x i : Operand) : takeOk P s (.index t x i) = True := id rfl
theorem take_slice (s : Slots) (t : TypeId) (x : Operand) (lo hi mx : Option Operand) : takeOk P s (.slice t x lo hi mx) = True := id rfl
theorem take_call (s : Slots) (c : Go.Call) : takeOk P s (.call c) = True := id rfl
theorem tree_done (ops : Array Oper) (s : Slots) (h : Heap) (K : Slots → Heap → Prop) : awpTree P T ops .done s h K = K s h := id rfl
theorem tree_take (l : List Oper) (i : Nat) (t : Tree) (s : Slots) (h : Heap) (K : Slots → Heap → Prop) : awpTree P T (zQa l) (.take i t) s h K = (treeT P (l[i]?) s ∧ treeA P T (zQa l) (l[i]?) s h (hid (fun s' h' => awpTree P T (zQa l) t s' h' K) .mk)) := by
 simp only [awpTree, zYa]; cases l[i]?
 · simp [treeA, treeT]
 · rfl
theorem tree_one (l : List Oper) (i : Nat) (t : Tree) (s : Slots) (h : Heap) (K : Slots → Heap → Prop) : awpTree P T (zQa l) (.alt i t .stop) s h K = treeA P T (zQa l) (l[i]?) s h (hid (fun s' h' => awpTree P T (zQa l) t s' h' K) .mk) := by
 simp only [awpTree, zYa, and_true]; cases l[i]? <;> rfl
theorem tree_alt {l : List Oper} {i : Nat} {t r : Tree} {s : Slots} {h : Heap} {K : Slots → Heap → Prop} (h1 : treeA P T (zQa l) (l[i]?) s h (hid (fun s' h' => awpTree P T (zQa l) t s' h' K) .mk)) (h2 : awpTree P T (zQa l) r s h K) : awpTree P T (zQa l) (.alt i t r) s h K := by
 refine ⟨?_, h2⟩
 simp only [zYa]
 revert h1
 cases l[i]? <;> exact id
theorem cv_v (src dst : TypeId) (v : Value) (s' : Slots) (x : AV) (K : AV → Slots → Prop) : awpCv P src dst (.v v, s') x s K = awpConv P src dst x (hid (fun v => K v s) .mk) := id rfl
theorem cv_sl (src dst : TypeId) (sz : Nat) (xs : List AV) (s' : Slots) (x : AV) (K : AV → Slots → Prop) : awpCv P src dst (.sl sz xs, s') x s K = awpConv P src dst x (hid (fun v => K v s) .mk) := id rfl
theorem awpOp_bs (t : TypeId) (n : Nat) (l : List (Nat × Operand)) : awpOp P T (.buildSlice t n (zQa l)) s h K = awpBS P (elemSz P t) n (l.map (·.1)) (frzs s (l.map (·.2))).1 (hid (fun v => K v (frzs s (l.map (·.2))).2 h) .mk) := id rfl
theorem bs_intro {e sz : Nat} {n : Nat} {ix : List Nat} {xs : List AV} {K : AV → Prop} (hz : ((P.info? e).any fun i => i.zero.isSome) = true) (h1 : 0 < sz) (h2 : n * sz ≤ 16777216) (h3 : ix = zIb n) (h4 : xs.length = n)
   (h5 : ∀ x ∈ xs, solid x = true ∧ x.cells.length = sz) (hK : K (.own true e sz xs)) : awpBS P (some (e, sz)) n ix xs K := ⟨hz, h1, h2, h3, h4, h5, hK⟩
theorem shl_intro {t : TypeId} {k k' : IntKind} {a b : Int} {KV : Value → Prop} (hb : 0 ≤ b) (hK : KV (.int k (k.wrap (a * 2 ^ min b.toNat k.bits)))) : awpBin P .shl t (.v (.int k a)) (.v (.int k' b)) KV := ⟨hb, hK⟩
theorem shr_intro {t : TypeId} {k k' : IntKind} {a b : Int} {KV : Value → Prop} (hb : 0 ≤ b) (hK : KV (.int k (a.fdiv (2 ^ min b.toNat k.bits)))) : awpBin P .shr t (.v (.int k a)) (.v (.int k' b)) KV := ⟨hb, hK⟩
theorem quo_intro {t : TypeId} {k : IntKind} {a b : Int} {KV : Value → Prop} (hb : b ≠ 0) (hK : KV (.int k (k.wrap (a.tdiv b)))) : awpBin P .quo t (.v (.int k a)) (.v (.int k b)) KV := ⟨rfl, hb, hK⟩
theorem rem_intro {t : TypeId} {k : IntKind} {a b : Int} {KV : Value → Prop} (hb : b ≠ 0) (hK : KV (.int k (a.tmod b))) : awpBin P .rem t (.v (.int k a)) (.v (.int k b)) KV := ⟨rfl, hb, hK⟩
theorem awpOp_idx (t : TypeId) (x i : Operand) : awpOp P T (.indexAddr t x i) s h K = awpIdxX s (elemSz P t) (arrSz P t) (mv s x) (ev s x) (ev s i) (hid (fun v => K v s h) .mk) := id rfl
theorem awpOp_load (t : TypeId) (p : Operand) : awpOp P T (.load t p) s h K = atPlace s h (mv s p) (hid (fun cs => ofCells P t cs (hid (fun v => K v s h) .mk)) .mk) := id rfl
theorem awpOp_ext (t : Operand) (i : Nat) : awpOp P T (.extract t i) s h K = awpExtS s (mv s t) i (hid (fun v => K v s h) .mk) := id rfl
theorem extS_tup (s : Slots) (vs : List AV) (i : Nat) (K : AV → Prop) : awpExtS s (.tup vs) i K = awpExt (.tup vs) i K := id rfl
theorem extS_alias (s : Slots) (k i : Nat) (K : AV → Prop) : awpExtS s (.alias k) i K = extAl k i K (s k) := id rfl
theorem extAl_tup (k i : Nat) (K : AV → Prop) (vs : List AV) : extAl k i K (.tup vs) = awpExt (.tup vs) i K := id rfl
theorem extAl_otup (k i i' : Nat) (K : AV → Prop) (m : Bool) (e sz : Nat) (xs rest : List AV) : extAl k i K (.otup i' m e sz xs rest) = bif i' == i then K (.part k i) else awpExt (.tup rest) i K := by
 by_cases h : i' = i
 · simp [extAl, h]
 · have h' : (i' == i) = false := by simpa using h
   simp [extAl, h, h', awpExt]
theorem awpOp_call (x : Operand) (l : List Operand) (ts : Array TypeId) : awpOp P T (.call { callee := .value x, args := zQa l, argTypes := ts }) s h K = awpCallV T (ev s x) l s h K := id rfl
theorem callV_clo (f : FuncId) (caps : List AV) (l : List Operand) : awpCallV T (.clo f caps) l s h K = callC T f ((escs s h l).1 ++ caps) (escs s h l).2.1 (escs s h l).2.2 K (hid (awpCallI T f caps l s h K ∨ awpCallG T f caps l s h K) .mk) := id rfl
def ownSl (t : Nat) : AV → Option Nat
 | .own .. => some t
 | .alias k => some k
 | _ => none
def callI (f : FuncId) (T : Option Spec) (as : List AV) (s3 : Slots) (h2 : Heap) (k0 : Option Nat) (K : AV → Slots → Heap → Prop) (x : AV) : Prop :=
 match T with
 | some S => inCall S as s3 h2 k0 K x
 | none => False
theorem callI_eq (f : FuncId) (t : Nat) (rest : List Operand) : awpCallI T f [] (.tmp t :: rest) s h K = callI f (T f) (escs s h rest).1 (tkA (escs s h rest).2.1 t ((escs s h rest).2.1 t)).2 (escs s h rest).2.2 (ownSl t ((escs s h rest).2.1 t)) K (tkA (escs s h rest).2.1 t ((escs s h rest).2.1 t)).1 := by
 unfold awpCallI callI
 cases T f with
 | none => rfl
 | some S =>
   simp only [tk_tmp]
   congr 1
theorem ownSl_own (t : Nat) (m : Bool) (e sz : Nat) (xs : List AV) : ownSl t (.own m e sz xs) = some t := id rfl
theorem ownSl_alias (t k : Nat) : ownSl t (.alias k) = some k := id rfl
theorem call_in {f : FuncId} {xs : List AV} {I J : Prop} (hI : I) : callC T f xs s h K (hid (I ∨ J) .mk) := .inr (.inl hI)
theorem callI_intro {S : Spec} {f : FuncId} {R : Option Spec} {as : List AV} {k0 e sz : Nat} {xs : List AV} (hT : R = some S)
   (hn : xs = [] → S (.v (.slice none 0 0) :: as) h fun r h' => h' = h ∧ inNil e sz s k0 h K r)
   (hb : ∀ c, xs.length ≤ c → c ≤ 9223372036854775807 → S (.osl h.length 0 xs.length c :: as) (h ++ [.row e (c * sz) (flat xs)]) fun r h' => ∃ cs, h' = h ++ [.row e (c * sz) cs] ∧ inOut e sz c h.length cs xs s k0 h K r) :
   callI f R as s h (some k0) K (.own true e sz xs) := by
 subst hT
 exact ⟨fun hx => ⟨_, hn hx, fun _ _ q => q⟩, fun c h1 h2 => ⟨_, hb c h1 h2, fun _ _ q => q⟩⟩
theorem mvA_osl (t id off n c : Nat) : mvA t (.osl id off n c) = .osl id off n c := _root_.id rfl
theorem tkA_osl (s : Slots) (t id off n c : Nat) : tkA s t (.osl id off n c) = (.osl id off n c, s) := _root_.id rfl
theorem frzA_osl (s : Slots) (t id off n c : Nat) : frzA s t (.osl id off n c) = (.osl id off n c, s) := _root_.id rfl
theorem look_osl (s : Slots) (id off n c : Nat) : look s (.osl id off n c) = .osl id off n c := _root_.id rfl
theorem val_osl (id off n c : Nat) : val (.osl id off n c) = .osl id off n c := _root_.id rfl
theorem res1_osl (id off n c : Nat) : res1 (.osl id off n c) = .osl id off n c := _root_.id rfl
theorem killed_osl (d id off n c : Nat) : killed d (.osl id off n c) = .osl id off n c := _root_.id rfl
theorem escX_osl (s : Slots) (h : Heap) (t id off n c : Nat) : escX s h t (.osl id off n c) = (.osl id off n c, s, h) := _root_.id rfl
theorem lenA_osl (e id off n c : Nat) (K : AV → Prop) : lenA (some (.slice e)) (.osl id off n c) K = K (.v (.int .i64 n)) := by simp [lenA]
theorem idxX_osl {s : Slots} {e : Option (TypeId × Nat)} {id off n c : Nat} {x i : AV} {K : AV → Prop} : awpIdxX s e none (.osl id off n c) x i K = awpIdxL e id off n i K := _root_.id rfl
theorem idxL_intro {e sz id off n : Nat} {k : IntKind} {q : Int} {K : AV → Prop} (h0 : 0 ≤ q) (h1 : q < n) (hK : K (.ptr id (off + q.toNat * sz))) : awpIdxL (some (e, sz)) id off n (.v (.int k q)) K := ⟨⟨h0, h1⟩, hK⟩
theorem objA_row (o e m : Nat) (cs : List AV) (K : List AV → Prop) : objA o (some (.row e m cs)) K = K (cs.drop o) := _root_.id rfl
theorem sliceO_intro {t e sz id off n c : Nat} {lo hi : Option AV} {l m : Int} {K : AV → Prop} (he : elemSz P t = some (e, sz)) (hl : boundOf 0 lo = some l) (hm : boundOf n hi = some m) (h0 : 0 ≤ l) (h1 : l ≤ m) (h2 : m ≤ n)
   (hK1 : (l = 0 ∨ l < c) → K (.osl id (off + l.toNat * sz) (m.toNat - l.toNat) (c - l.toNat))) (hK2 : ¬ (l = 0 ∨ l < c) → K (.sl sz [])) : awpSlice P t (.osl id off n c) lo hi none K := by
 simp only [awpSlice, he, hl, hm]; exact ⟨trivial, ⟨h0, h1, h2⟩, hK1, hK2⟩
theorem clearS_intro {t e e' m id off n : Nat} {h : Heap} {K : Heap → Prop} {z : Value} (cs : List AV) (hu : P.underlying t = some (.slice e)) (hz : (P.info? e).bind (·.zero) = some z) (hp : plain z = true ∨ ∃ zs, z = .agg zs ∧ zs.all plain = true) (hh : h[id]? = some (.row e' m cs))
   (hf : off + n * z.cells.size ≤ cs.length) (hK : K (h.set id (.row e' m (putCells cs off (List.replicate (n * z.cells.size) .any))))) : awpClearS P t id off n h K := by
 simp only [awpClearS, hu, hz, hh]; exact ⟨hp, hf, hK⟩
theorem clearX_nil {t e sz : Nat} {h : Heap} {K : Heap → Prop} (hu : P.underlying t = some (.slice e)) (hK : K h) : awpClearX P t (.sl sz []) h K := ⟨⟨e, hu⟩, hK⟩
theorem store_row {n i o e m : Nat} {x : AV} {s : Slots} {h : Heap} {K : AV → Slots → Heap → Prop} (cs : List AV) (hs : h[i]? = some (.row e m cs)) (h1 : solid x = true) (h2 : n = x.cells.length) (h3 : o + n ≤ cs.length)
   (hK : K .any s (h.set i (.row e m (putCells cs o x.cells)))) : awpStore (some n) (.ptr i o) x s h K := by
 refine ⟨h1, by rw [h2], ?_⟩
 simp only [hs]
 exact ⟨by omega, hK⟩
theorem ext_0 (x : AV) (r : List AV) (K : AV → Prop) : awpExt (.tup (x :: r)) 0 K = K (val x) := by simp [awpExt]
theorem ext_1 (x y : AV) (r : List AV) (K : AV → Prop) : awpExt (.tup (x :: y :: r)) 1 K = K (val y) := by simp [awpExt]
theorem ext_2 (x y z : AV) (r : List AV) (K : AV → Prop) : awpExt (.tup (x :: y :: z :: r)) 2 K = K (val z) := by simp [awpExt]
theorem ext_3 (x y z u : AV) (r : List AV) (K : AV → Prop) : awpExt (.tup (x :: y :: z :: u :: r)) 3 K = K (val u) := by simp [awpExt]
theorem awpOp_nc (x : Operand) : awpOp P T (.nilCheck x) s h K = awpNc (mv s x) (hid (fun v => K v s h) .mk) := id rfl
theorem nc_place (k o : Nat) (K : AV → Prop) : awpNc (.place k o) K = K (.place k o) := id rfl
theorem nc_eptr (cs : List AV) (K : AV → Prop) : awpNc (.eptr cs) K = K (.eptr cs) := id rfl
theorem nc_ptr (i o : Nat) (K : AV → Prop) : awpNc (.ptr i o) K = K (.ptr i o) := id rfl
theorem awpOp_fa (t : TypeId) (x : Operand) (f : Nat) : awpOp P T (.fieldAddr t x f) s h K = awpFa (fieldOf P t f) (mv s x) (hid (fun v => K v s h) .mk) := id rfl
theorem fa_place (off t k o : Nat) (K : AV → Prop) : awpFa (some (off, t)) (.place k o) K = K (.place k (o + off)) := id rfl
theorem fa_eptr (off t : Nat) (cs : List AV) (K : AV → Prop) : awpFa (some (off, t)) (.eptr cs) K = K (.eptr (cs.drop off)) := id rfl
theorem fa_ptr (off t i o : Nat) (K : AV → Prop) : awpFa (some (off, t)) (.ptr i o) K = K (.ptr i (o + off)) := id rfl
theorem awpOp_field (t : TypeId) (x : Operand) (f : Nat) : awpOp P T (.field t x f) s h K = awpField P (fieldOf P t f) (ev s x) (hid (fun v => K v s h) .mk) := id rfl
theorem field_agg (off t : Nat) (cs : List AV) (K : AV → Prop) : awpField P (some (off, t)) (.agg cs) K = ofCells P t (cs.drop off) K := id rfl
theorem awpOp_box (t : TypeId) (x : Operand) : awpOp P T (.box t x) s h K = awpBox (frz s x).1 (hid (fun v => K v (frz s x).2 h) .mk) := id rfl
theorem box_v (x : Value) (K : AV → Prop) : awpBox (.v x) K = K (.box [.v x]) := by simp [awpBox, solid, AV.cells]
theorem box_sl (sz : Nat) (xs : List AV) (K : AV → Prop) : awpBox (.sl sz xs) K = K (.box [.sl sz xs]) := by simp [awpBox, solid, AV.cells]
theorem box_agg (xs : List AV) (K : AV → Prop) : awpBox (.agg xs) K = K (.box xs) := by simp [awpBox, solid, AV.cells]
theorem box_ptr (i o : Nat) (K : AV → Prop) : awpBox (.ptr i o) K = K (.box [.ptr i o]) := by simp [awpBox, solid, AV.cells]
theorem box_mp (i : Nat) (K : AV → Prop) : awpBox (.mp i) K = K (.box [.mp i]) := by simp [awpBox, solid, AV.cells]
theorem box_clo (f : FuncId) (xs : List AV) (K : AV → Prop) : awpBox (.clo f xs) K = K (.box [.clo f xs]) := by simp [awpBox, solid, AV.cells]
theorem awpOp_alloc (t : TypeId) : awpOp P T (.alloc t) s h K = awpAlloc ((P.info? t).bind (·.zero)) (hid (fun v => K v s h) .mk) := id rfl
theorem alloc_agg {t : TypeId} {cs : Array Value} (hz : (P.info? t).bind (·.zero) = some (.agg cs)) (hp : cs.all plain = true) (K : AV → Prop) : awpAlloc ((P.info? t).bind (·.zero)) K = K (.box (cs.toList.map .v)) := by
 have h1 : (cst (.agg cs)).cells = cs.toList.map .v := by simp [cst, hp, AV.cells]
 have h2 : plain (.agg cs) = true ∨ ∃ cs', Value.agg cs = .agg cs' ∧ cs'.all plain = true := .inr ⟨cs, rfl, hp⟩
 unfold awpAlloc
 simp only [hz, h1, h2, true_and]
theorem awpOp_store (t : TypeId) (p x : Operand) : awpOp P T (.store t p x) s h K = awpStore (szT P t) (mv s p) (esc s h x).1 (esc s h x).2.1 (esc s h x).2.2 K := id rfl
theorem store_place {n k o : Nat} {x : AV} {s : Slots} {h : Heap} {K : AV → Slots → Heap → Prop} (cs : List AV) (hs : s k = .box cs) (h1 : solid x = true) (h2 : n = x.cells.length) (h3 : o + n ≤ cs.length)
   (hK : K .any (set s k (.box (putCells cs o x.cells))) h) : awpStore (some n) (.place k o) x s h K := by
 refine ⟨h1, by rw [h2], ?_⟩
 simp only [hs]
 exact ⟨by omega, hK⟩
theorem store_ptr {n i o : Nat} {x : AV} {s : Slots} {h : Heap} {K : AV → Slots → Heap → Prop} (cs : List AV) (hs : h[i]? = some (.cells cs)) (h1 : solid x = true) (h2 : n = x.cells.length) (h3 : o + n ≤ cs.length)
   (hK : K .any s (h.set i (.cells (putCells cs o x.cells)))) : awpStore (some n) (.ptr i o) x s h K := by
 refine ⟨h1, by rw [h2], ?_⟩
 simp only [hs]
 exact ⟨by omega, hK⟩
theorem awpOp_mf (f : FuncId) (l : List Operand) : awpOp P T (.makeFunc (.func f) #[] (zQa l)) s h K = K (.clo f (escs s h l).1) (escs s h l).2.1 (escs s h l).2.2 := by
 simp [awpOp]
theorem place_ptr (i o : Nat) (KL : List AV → Prop) : atPlace s h (.ptr i o) KL = objA o h[i]? KL := id rfl
theorem objA_cells (o : Nat) (cs : List AV) (KL : List AV → Prop) : objA o (some (.cells cs)) KL = KL (cs.drop o) := id rfl
theorem awpOp_builtin (b : Builtin) (l : List Operand) (ts : List TypeId) : awpOp P T (.call { callee := .builtin b, args := zQa l, argTypes := zQa ts }) s h K = awpBui P b ts (zQa ts) l s h K := id rfl
theorem bui_len (ts : List TypeId) (tsA : Array TypeId) (l : List Operand) : awpBui P .len ts tsA l s h K = awpBuiltin P .len tsA l s h K := id rfl
theorem bui_min (ts : List TypeId) (tsA : Array TypeId) (l : List Operand) : awpBui P .min ts tsA l s h K = awpBuiltin P .min tsA l s h K := id rfl
theorem bui_max (ts : List TypeId) (tsA : Array TypeId) (l : List Operand) : awpBui P .max ts tsA l s h K = awpBuiltin P .max tsA l s h K := id rfl
theorem bui_append (t tx : TypeId) (tsA : Array TypeId) (x y : Operand) : awpBui P .append [t, tx] tsA [x, y] s h K = awpAppend P t tx (tk s x) (fun s' => look s' (ev s' y)) (hid (fun v s' => K v s' h) .mk) := id rfl
theorem awpOp_un (op : UnOp) (t : TypeId) (x : Operand) : awpOp P T (.unOp op t x) s h K = awpUn op (ev s x) (hid (fun v => K (.v v) s h) .mk) := id rfl
theorem un_not (b : Bool) (KV : Value → Prop) : awpUn .not (.v (.bool b)) KV = KV (.bool (!b)) := id rfl
theorem un_neg (k : IntKind) (n : Int) (KV : Value → Prop) : awpUn .neg (.v (.int k n)) KV = KV (.int k (k.wrap (0 - n))) := id rfl
theorem un_xor (k : IntKind) (n : Int) (KV : Value → Prop) : awpUn .xor (.v (.int k n)) KV = KV (.int k (bits .xor k (if k.signed then -1 else k.max) n)) := id rfl
theorem awpOp_slice (t : TypeId) (x : Operand) (lo hi mx : Option Operand) : awpOp P T (.slice t x lo hi mx) s h K = awpSlice P t (frz s x).1 (lo.map (ev s)) (hi.map (ev s)) (mx.map (ev s)) (hid (fun v => K v (frz s x).2 h) .mk) := id rfl
theorem awpOp_make (t : TypeId) (l c : Operand) : awpOp P T (.makeSlice t l c) s h K = awpMake P t (ev s l) (ev s c) (hid (fun v => K v s h) .mk) := id rfl
def appB (P : Program) (tx : TypeId) (sz bs : Nat) (m : Bool) (e : TypeId) (xs : List AV) (y : AV) (K : AV → Prop) : Prop :=
 srcOf P tx sz y fun ys => (∀ c ∈ ys, c.cells.length = sz) ∧ (xs.length + ys.length) * (bs + 1) ≤ 140737488355328 ∧ K (.own m e sz (xs ++ ys))
theorem append_own {t tx e sz bs : Nat} (he : elemIn P t = some (e, sz, bs)) (m : Bool) (xs : List AV) (s' : Slots) (y : Slots → AV) (K : AV → Slots → Prop) :
   awpAppend P t tx (.own m e sz xs, s') y K = appB P tx sz bs m e xs (y s') (hid (fun v => K v s') .mk) := by
 simp only [awpAppend, he, appTo, appB, hid, true_and]
theorem append_nil {t tx e sz bs : Nat} (he : elemIn P t = some (e, sz, bs)) (s' : Slots) (y : Slots → AV) (K : AV → Slots → Prop) :
   awpAppend P t tx (.v (.slice none 0 0), s') y K = appB P tx sz bs true e [] (y s') (hid (fun v => K v s') .mk) := by
 simp only [awpAppend, he, appTo, appB, hid]
theorem app_sl {tx sz bs e e' : Nat} {m : Bool} {xs ys : List AV} {K : AV → Prop} (ht : P.underlying tx = some (.slice e')) (hu : ∀ c ∈ ys, c.cells.length = sz)
   (hb : (xs.length + ys.length) * (bs + 1) ≤ 140737488355328) (hK : K (.own m e sz (xs ++ ys))) : appB P tx sz bs m e xs (.sl sz ys) K := by
 refine ⟨rfl, by simp [ht], hu, hb, hK⟩
theorem app_nil {tx sz bs e e' : Nat} {m : Bool} {xs : List AV} {K : AV → Prop} (ht : P.underlying tx = some (.slice e'))
   (hb : xs.length * (bs + 1) ≤ 140737488355328) (hK : K (.own m e sz xs)) : appB P tx sz bs m e xs (.v (.slice none 0 0)) K :=
 ⟨by simp [ht], by simp, by simpa using hb, by simpa using hK⟩
theorem slice_lh {t e sz : Nat} {xs : List AV} {k k' : IntKind} {l m : Int} {K : AV → Prop} (he : elemSz P t = some (e, sz)) (h0 : 0 ≤ l) (h1 : l ≤ m) (h2 : m ≤ xs.length) (hK : K (.sl sz ((xs.take m.toNat).drop l.toNat))) :
   awpSlice P t (.sl sz xs) (some (.v (.int k l))) (some (.v (.int k' m))) none K := by
 simp only [awpSlice, he, boundOf]; exact ⟨trivial, ⟨h0, h1, h2⟩, trivial, hK⟩
theorem slice_l {t e sz : Nat} {xs : List AV} {k : IntKind} {l : Int} {K : AV → Prop} (he : elemSz P t = some (e, sz)) (h0 : 0 ≤ l) (h1 : l ≤ xs.length) (hK : K (.sl sz (xs.drop l.toNat))) :
   awpSlice P t (.sl sz xs) (some (.v (.int k l))) none none K := by
 simp only [awpSlice, he, boundOf]; exact ⟨trivial, ⟨h0, h1, Int.le_refl _⟩, trivial, by simpa using hK⟩
theorem slice_h {t e sz : Nat} {xs : List AV} {k : IntKind} {m : Int} {K : AV → Prop} (he : elemSz P t = some (e, sz)) (h0 : 0 ≤ m) (h1 : m ≤ xs.length) (hK : K (.sl sz (xs.take m.toNat))) :
   awpSlice P t (.sl sz xs) none (some (.v (.int k m))) none K := by
 simp only [awpSlice, he, boundOf]; exact ⟨trivial, ⟨Int.le_refl _, h0, h1⟩, trivial, by simpa using hK⟩
theorem make_intro {t e sz bs : Nat} {k k' : IntKind} {n c : Int} {z : Value} {K : AV → Prop} (he : elemIn P t = some (e, sz, bs)) (hi : (P.info? e).bind (·.zero) = some z) (hz : plain z = true ∨ ∃ cs, z = .agg cs ∧ cs.all plain = true)
   (h0 : 0 ≤ n) (h1 : n ≤ c) (h2 : c ≤ 9223372036854775807) (h3 : c * bs ≤ 140737488355328) (hK : K (.own true e sz (List.replicate n.toNat (cst z)))) : awpMake P t (.v (.int k n)) (.v (.int k' c)) K := by
 simp only [awpMake, he]
 exact ⟨⟨h0, h1, h2, h3⟩, fun z' hz' => by rw [hi] at hz'; cases hz'; exact ⟨hz, hK⟩⟩
theorem awpB_len (ts : Array TypeId) (o : Operand) : awpBuiltin P .len ts [o] s h K = lenA ((ts[0]?).bind P.underlying) (look s (ev s o)) (hid (fun v => K v s h) .mk) := id rfl
theorem lenA_sl (e sz : Nat) (xs : List AV) (K : AV → Prop) : lenA (some (.slice e)) (.sl sz xs) K = K (.v (.int .i64 xs.length)) := by simp [lenA]
theorem lenA_nil (e : Nat) (K : AV → Prop) : lenA (some (.slice e)) (.v (.slice none 0 0)) K = K (.v (.int .i64 0)) := by simp [lenA]
theorem lenA_str (b : ByteArray) (K : AV → Prop) : lenA (some .string) (.v (.string b)) K = K (.v (.int .i64 b.size)) := by simp [lenA]
theorem awpB_min (ts : Array TypeId) (a b : Operand) : awpBuiltin P .min ts [a, b] s h K = minA (ev s a) (ev s b) (hid (fun v => K v s h) .mk) := id rfl
theorem awpB_max (ts : Array TypeId) (a b : Operand) : awpBuiltin P .max ts [a, b] s h K = maxA (ev s a) (ev s b) (hid (fun v => K v s h) .mk) := id rfl
theorem awpB_min3 (ts : Array TypeId) (a b c : Operand) : awpBuiltin P .min ts [a, b, c] s h K = minA (ev s a) (ev s b) (hid (fun v => minA v (ev s c) (hid (fun v => K v s h) .mk)) .mk) := id rfl
theorem awpB_max3 (ts : Array TypeId) (a b c : Operand) : awpBuiltin P .max ts [a, b, c] s h K = maxA (ev s a) (ev s b) (hid (fun v => maxA v (ev s c) (hid (fun v => K v s h) .mk)) .mk) := id rfl
theorem minA_int (k : IntKind) (x y : Int) (K : AV → Prop) : minA (.v (.int k x)) (.v (.int k y)) K = K (.v (.int k (if y < x then y else x))) := by simp [minA]
theorem maxA_int (k : IntKind) (x y : Int) (K : AV → Prop) : maxA (.v (.int k x)) (.v (.int k y)) K = K (.v (.int k (if x < y then y else x))) := by simp [maxA]
variable (t : TypeId) (k : IntKind) (a b : Int) (KV : Value → Prop)
theorem bin_add : awpBin P .add t (.v (.int k a)) (.v (.int k b)) KV = KV (.int k (k.wrap (a + b))) := by simp [awpBin, intOp]
theorem bin_sub : awpBin P .sub t (.v (.int k a)) (.v (.int k b)) KV = KV (.int k (k.wrap (a - b))) := by simp [awpBin, intOp]
theorem bin_mul : awpBin P .mul t (.v (.int k a)) (.v (.int k b)) KV = KV (.int k (k.wrap (a * b))) := by simp [awpBin, intOp]
theorem bin_and : awpBin P .and t (.v (.int k a)) (.v (.int k b)) KV = KV (.int k (bits .and k a b)) := by simp [awpBin, intOp]
theorem bin_or : awpBin P .or t (.v (.int k a)) (.v (.int k b)) KV = KV (.int k (bits .or k a b)) := by simp [awpBin, intOp]
theorem bin_xor : awpBin P .xor t (.v (.int k a)) (.v (.int k b)) KV = KV (.int k (bits .xor k a b)) := by simp [awpBin, intOp]
theorem bin_eql : awpBin P .eql t (.v (.int k a)) (.v (.int k b)) KV = KV (.bool (a == b)) := by simp [awpBin, intOp]
theorem bin_neq : awpBin P .neq t (.v (.int k a)) (.v (.int k b)) KV = KV (.bool (a != b)) := by simp [awpBin, intOp]
theorem bin_lss : awpBin P .lss t (.v (.int k a)) (.v (.int k b)) KV = KV (.bool (decide (a < b))) := by simp [awpBin, intOp]
theorem bin_leq : awpBin P .leq t (.v (.int k a)) (.v (.int k b)) KV = KV (.bool (decide (a ≤ b))) := by simp [awpBin, intOp]
theorem bin_gtr : awpBin P .gtr t (.v (.int k a)) (.v (.int k b)) KV = KV (.bool (decide (a > b))) := by simp [awpBin, intOp]
theorem bin_geq : awpBin P .geq t (.v (.int k a)) (.v (.int k b)) KV = KV (.bool (decide (a ≥ b))) := by simp [awpBin, intOp]
theorem place_eptr (cs : List AV) (K : List AV → Prop) : atPlace s h (.eptr cs) K = K cs := id rfl
theorem place_place (k o : Nat) (K : List AV → Prop) : atPlace s h (.place k o) K = boxA h o (s k) K := id rfl
theorem boxA_box (o : Nat) (cs : List AV) (K : List AV → Prop) : boxA h o (.box cs) K = K (cs.drop o) := id rfl
theorem boxA_eptr (o : Nat) (cs : List AV) (K : List AV → Prop) : boxA h o (.eptr cs) K = K (cs.drop o) := id rfl
theorem boxA_ptr (o i o0 : Nat) (K : List AV → Prop) : boxA h o (.ptr i o0) K = objA (o0 + o) h[i]? K := id rfl
theorem idx_intro {e sz : Nat} {xs : List AV} {x : AV} {k : IntKind} {n : Int} {K : AV → Prop} (hx : asSl sz x = some xs) (hb : 0 ≤ n ∧ n < xs.length) (hK : ∀ x, xs[n.toNat]? = some x → K (.eptr x.cells)) :
   awpIdx (some (e, sz)) x (.v (.int k n)) K := by
 simp only [awpIdx, hx]; exact ⟨hb, hK⟩
end eqs
theorem awpFunc_some {P : Program} {T : FuncId → Option Spec} {fn : Func} {c : Code} (hb : fn.body = some c) (args : List AV) (h : Heap) (Q : AV → Heap → Prop) :
   awpFunc P T fn args h Q = awp P T c (init args) h (hid (fun o s h' => endO o (hid (awpRet P fn.results.toList s h' Q) .mk)) .mk) := by
 unfold awpFunc; rw [hb]; rfl
def retX (s : Slots) (h : Heap) (t : Nat) (Q : AV → Heap → Prop) : AV → Prop
 | .box cs => Q (.ptr h.length 0) (h ++ [.cells cs])
 | .place k o => Q (escQ s h k o (s k)).1 (escQ s h k o (s k)).2.2
 | x => Q (res1 (tkA s t x).1) h
theorem awpRet_tmp {P : Program} (t : Nat) (s : Slots) (h : Heap) (Q : AV → Heap → Prop) : awpRet P [.tmp t] s h Q = retX s h t Q (s t) := by
 simp only [awpRet, ret1, retX, tk_tmp, esc_tmp]
 cases hst : s t <;> simp only [hst, escX]
theorem retX_place (s : Slots) (h : Heap) (t : Nat) (Q : AV → Heap → Prop) (k o : Nat) : retX s h t Q (.place k o) = Q (escQ s h k o (s k)).1 (escQ s h k o (s k)).2.2 := id rfl
theorem retX_box (s : Slots) (h : Heap) (t : Nat) (Q : AV → Heap → Prop) (cs : List AV) : retX s h t Q (.box cs) = Q (.ptr h.length 0) (h ++ [.cells cs]) := id rfl
theorem retX_own (s : Slots) (h : Heap) (t : Nat) (Q : AV → Heap → Prop) (m : Bool) (e sz : Nat) (xs : List AV) : retX s h t Q (.own m e sz xs) = Q (.own m e sz xs) h := id rfl
theorem retX_alias (s : Slots) (h : Heap) (t : Nat) (Q : AV → Heap → Prop) (k : Nat) : retX s h t Q (.alias k) = Q (res1 (tkAl s k (s k)).1) h := id rfl
theorem retX_v (s : Slots) (h : Heap) (t : Nat) (Q : AV → Heap → Prop) (x : Value) : retX s h t Q (.v x) = Q (.v x) h := id rfl
theorem retX_sl (s : Slots) (h : Heap) (t : Nat) (Q : AV → Heap → Prop) (sz : Nat) (xs : List AV) : retX s h t Q (.sl sz xs) = Q (.sl sz xs) h := id rfl
theorem retX_agg (s : Slots) (h : Heap) (t : Nat) (Q : AV → Heap → Prop) (xs : List AV) : retX s h t Q (.agg xs) = Q (.agg xs) h := id rfl
theorem retX_tup (s : Slots) (h : Heap) (t : Nat) (Q : AV → Heap → Prop) (xs : List AV) : retX s h t Q (.tup xs) = Q (.tup xs) h := id rfl
theorem retX_eptr (s : Slots) (h : Heap) (t : Nat) (Q : AV → Heap → Prop) (xs : List AV) : retX s h t Q (.eptr xs) = Q (.eptr xs) h := id rfl
theorem retX_ptr (s : Slots) (h : Heap) (t : Nat) (Q : AV → Heap → Prop) (i o : Nat) : retX s h t Q (.ptr i o) = Q (.ptr i o) h := id rfl
theorem retX_mp (s : Slots) (h : Heap) (t : Nat) (Q : AV → Heap → Prop) (i : Nat) : retX s h t Q (.mp i) = Q (.mp i) h := id rfl
theorem retX_clo (s : Slots) (h : Heap) (t : Nat) (Q : AV → Heap → Prop) (f : FuncId) (xs : List AV) : retX s h t Q (.clo f xs) = Q (.clo f xs) h := id rfl
theorem retX_any (s : Slots) (h : Heap) (t : Nat) (Q : AV → Heap → Prop)  : retX s h t Q .any = Q .any h := id rfl
theorem retX_osl (s : Slots) (h : Heap) (t : Nat) (Q : AV → Heap → Prop) (id off n c : Nat) : retX s h t Q (.osl id off n c) = Q (.osl id off n c) h := _root_.id rfl
theorem awpRet_cell {P : Program} (a t : Nat) (s : Slots) (h : Heap) (Q : AV → Heap → Prop) : awpRet P [.cell a t] s h Q = atPlace s h (mvA a (s a)) (hid (fun cs => ofCells P t cs (hid (fun v => Q v h) .mk)) .mk) := by
 simp only [awpRet, mv_tmp]; rfl
theorem awpRet_many {P : Program} (a b : ResultVar) (r : List ResultVar) (s : Slots) (h : Heap) (Q : AV → Heap → Prop) : awpRet P (a :: b :: r) s h Q = awpResults P (a :: b :: r) s h (hid (fun vs _ h' => Q (.tup vs) h') .mk) := by cases a <;> rfl
theorem awpRet_zero {P : Program} (s : Slots) (h : Heap) (Q : AV → Heap → Prop) : awpRet P [] s h Q = Q (.tup []) h := id rfl
theorem awpFuncO_some {P : Program} {T : FuncId → Option Spec} {i : Nat} {fn : Func} {c : Code} (hb : fn.body = some c) (args : List AV) (h : Heap) (Q : AV → Heap → Prop) :
   awpFuncO P T i fn args h Q = awp P T c (init args) h (hid (fun o s h' => endO o (hid (awpRetO P i fn.results.toList s h' Q) .mk)) .mk) := by
 unfold awpFuncO; rw [hb]; rfl
def retOX (P : Program) (i : Nat) (x : Option ResultVar) (rs : List ResultVar) (s : Slots) (h : Heap) (Q : AV → Heap → Prop) : Prop :=
 match x with
 | some (.tmp t) => awpResO P i rs s h (hid (fun vs s' h' => ownTup i vs (hid (fun x => Q x h') .mk) (tkA s' t (s' t)).1) .mk)
 | _ => False
theorem awpRetO_eq {P : Program} (i : Nat) (a b : ResultVar) (r : List ResultVar) (s : Slots) (h : Heap) (Q : AV → Heap → Prop) : awpRetO P i (a :: b :: r) s h Q = retOX P i (a :: b :: r)[i]? (a :: b :: r) s h Q := by
 unfold awpRetO retOX
 cases hx : (a :: b :: r)[i]? with
 | none => rfl
 | some x => cases x <;> simp [hid, tk_tmp]
theorem retOX_tmp {P : Program} (i t : Nat) (rs : List ResultVar) (s : Slots) (h : Heap) (Q : AV → Heap → Prop) : retOX P i (some (.tmp t)) rs s h Q = awpResO P i rs s h (hid (fun vs s' h' => ownTup i vs (hid (fun x => Q x h') .mk) (tkA s' t (s' t)).1) .mk) := id rfl
theorem resO_nil {P : Program} (i : Nat) (s : Slots) (h : Heap) (K : List AV → Slots → Heap → Prop) : awpResO P i [] s h K = K [] s h := by cases i <;> rfl
theorem resO_0 {P : Program} (t : Nat) (r : List ResultVar) (s : Slots) (h : Heap) (K : List AV → Slots → Heap → Prop) : awpResO P 0 (.tmp t :: r) s h K = awpResults P r s h (hid (fun vs s' h' => K (.any :: vs) s' h') .mk) := id rfl
theorem resO_s {P : Program} (n t : Nat) (r : List ResultVar) (s : Slots) (h : Heap) (K : List AV → Slots → Heap → Prop) : awpResO P (n + 1) (.tmp t :: r) s h K = awpResO P n r (escX s h t (s t)).2.1 (escX s h t (s t)).2.2 (hid (fun vs s' h' => K ((escX s h t (s t)).1 :: vs) s' h') .mk) := by
 simp only [awpResO, esc_tmp]; rfl
theorem resO_c {P : Program} (n a t : Nat) (r : List ResultVar) (s : Slots) (h : Heap) (K : List AV → Slots → Heap → Prop) : awpResO P (n + 1) (.cell a t :: r) s h K = atPlace s h (mvA a (s a)) (hid (fun cs => ofCells P t cs (hid (fun v => awpResO P n r s h (hid (fun vs s' h' => K (v :: vs) s' h') .mk)) .mk)) .mk) := by
 simp only [awpResO, mv_tmp]; rfl
theorem ownTup_own (i : Nat) (vs : List AV) (Q : AV → Prop) (m : Bool) (e sz : Nat) (xs : List AV) : ownTup i vs Q (.own m e sz xs) = Q (.otup i m e sz xs vs) := id rfl
theorem ownTup_v0 (y : AV) (vs : List AV) (Q : AV → Prop) (x : Value) : ownTup 0 (y :: vs) Q (.v x) = Q (.tup (.v x :: vs)) := id rfl
theorem ownTup_v1 (y z : AV) (vs : List AV) (Q : AV → Prop) (x : Value) : ownTup 1 (y :: z :: vs) Q (.v x) = Q (.tup (y :: .v x :: vs)) := id rfl
theorem awpRes_nil {P : Program} (s : Slots) (h : Heap) (K : List AV → Slots → Heap → Prop) : awpResults P [] s h K = K [] s h := id rfl
theorem awpRes_tmp {P : Program} (t : Nat) (r : List ResultVar) (s : Slots) (h : Heap) (K : List AV → Slots → Heap → Prop) : awpResults P (.tmp t :: r) s h K = awpResults P r (escX s h t (s t)).2.1 (escX s h t (s t)).2.2 (hid (fun vs s' h' => K ((escX s h t (s t)).1 :: vs) s' h') .mk) := by
 simp only [awpResults, esc_tmp]; rfl
theorem awpRes_cell {P : Program} (a t : Nat) (r : List ResultVar) (s : Slots) (h : Heap) (K : List AV → Slots → Heap → Prop) : awpResults P (.cell a t :: r) s h K = atPlace s h (mvA a (s a)) (hid (fun cs => ofCells P t cs (hid (fun v => awpResults P r s h (hid (fun vs s' h' => K (v :: vs) s' h') .mk)) .mk)) .mk) := by
 simp only [awpResults, mv_tmp]; rfl
end Go.Vm
namespace Go.Vm
open Go.RowKit
theorem E : type_of% (zZ (zZ (zZ (zZ (zZ (zZ (zZ (zZ (@bui_len) (zZ (@bui_min) (@bui_max))) (zZ (@bui_append) (zZ (@awpOp_un) (@un_not)))) (zZ (zZ (@un_neg) (zZ (@un_xor) (@awpOp_slice))) (zZ (@awpOp_make) (zZ (@Option.map_some.{0,0}) (@Option.map_none.{0,0}))))) (zZ (zZ (zZ (@cv_v) (zZ (@cv_sl) (@awpOp_bs))) (zZ (@List.map_cons.{0,0}) (zZ (@List.map_nil.{0,0}) (@cells_v)))) (zZ (zZ (@cells_sl) (zZ (@cells_agg) (@cells_ptr))) (zZ (@cells_mp) (zZ (@cells_clo) (@cells_any)))))) (zZ (zZ (zZ (zZ (@awpRet_zero) (zZ (@put_app) (@set_app))) (zZ (@killed_v) (zZ (@killed_sl) (@killed_own)))) (zZ (zZ (@killed_agg) (zZ (@killed_tup) (@killed_box))) (zZ (@killed_eptr) (zZ (@killed_ptr) (@killed_mp))))) (zZ (zZ (zZ (@killed_clo) (zZ (@killed_any) (@killed_alias))) (zZ (@killed_place) (zZ (@killed_elt) (@mk_app)))) (zZ (zZ (@encB_cells) (zZ (@val_encB) (@hid1.{0,1}))) (zZ (zZ (@hid2.{0,0,1}) (@hid3.{0,0,0,1})) (zZ (@mv_tmp) (@mv_const))))))) (zZ (zZ (zZ (zZ (zZ (@mv_func) (zZ (@tk_tmp) (@tk_const))) (zZ (@tk_func) (zZ (@frz_tmp) (@frz_const)))) (zZ (zZ (@frz_func) (zZ (@frzs_nil) (@frzs_cons))) (zZ (@ev_tmp) (zZ (@ev_const) (@ev_func))))) (zZ (zZ (zZ (@mvA_own) (zZ (@mvA_box) (@mvA_alias))) (zZ (@mvA_place) (zZ (@mvA_elt) (@tkA_own)))) (zZ (zZ (@tkA_alias) (zZ (@tkAl_own) (@frzA_own))) (zZ (zZ (@frzA_alias) (@frzAl_own)) (zZ (@look_alias) (@lookAl_own)))))) (zZ (zZ (zZ (zZ (@look_own) (zZ (@cst_int) (@cst_bool))) (zZ (@cst_string) (zZ (@cst_nil) (@cst_nilp)))) (zZ (zZ (@cst_nilm) (zZ (@mvA_v) (@tkA_v))) (zZ (@frzA_v) (zZ (@look_v) (@val_v))))) (zZ (zZ (zZ (@res1_v) (zZ (@mvA_sl) (@tkA_sl))) (zZ (@frzA_sl) (zZ (@look_sl) (@val_sl)))) (zZ (zZ (@res1_sl) (zZ (@mvA_agg) (@tkA_agg))) (zZ (zZ (@frzA_agg) (@look_agg)) (zZ (@val_agg) (@res1_agg)))))))) (zZ (zZ (zZ (zZ (zZ (zZ (@mvA_tup) (zZ (@tkA_tup) (@frzA_tup))) (zZ (@look_tup) (zZ (@val_tup) (@res1_tup)))) (zZ (zZ (@mvA_eptr) (zZ (@tkA_eptr) (@frzA_eptr))) (zZ (@look_eptr) (zZ (@val_eptr) (@res1_eptr))))) (zZ (zZ (zZ (@mvA_ptr) (zZ (@tkA_ptr) (@frzA_ptr))) (zZ (@look_ptr) (zZ (@val_ptr) (@res1_ptr)))) (zZ (zZ (@mvA_mp) (zZ (@tkA_mp) (@frzA_mp))) (zZ (@look_mp) (zZ (@val_mp) (@res1_mp)))))) (zZ (zZ (zZ (zZ (@mvA_clo) (zZ (@tkA_clo) (@frzA_clo))) (zZ (@look_clo) (zZ (@val_clo) (@res1_clo)))) (zZ (zZ (@mvA_any) (zZ (@tkA_any) (@frzA_any))) (zZ (@look_any) (zZ (@val_any) (@res1_any))))) (zZ (zZ (zZ (@res1_own) (zZ (@awp_skip) (@awp_region))) (zZ (@awp_seq) (zZ (@awp_cond) (@awp_block)))) (zZ (zZ (@awp_exit) (zZ (@awp_scope) (@awp_label))) (zZ (zZ (@awp_ret) (@thenO_n)) (zZ (@thenO_e) (@thenO_r))))))) (zZ (zZ (zZ (zZ (zZ (@blockO_n) (zZ (@blockO_r) (@blockO_e))) (zZ (@endO_n) (zZ (@endO_r) (@awpOps_nil)))) (zZ (zZ (@awpOps_cons) (zZ (@awpAt_none) (@awpAt_some))) (zZ (@awpGuard_some) (zZ (@guardA_tt) (@guardA_tf))))) (zZ (zZ (zZ (@guardA_ft) (zZ (@guardA_ff) (@putD_some))) (zZ (@putD_none) (zZ (@condA_t) (@condA_f)))) (zZ (zZ (@awpOp_move) (zZ (@awpOp_assign) (@awpOp_pick))) (zZ (zZ (@awpOp_bin) (@awpOp_conv)) (zZ (@awpOp_idx) (@awpOp_load)))))) (zZ (zZ (zZ (zZ (@awpOp_ext) (zZ (@awpOp_call) (@awpOp_builtin))) (zZ (@awpB_len) (zZ (@lenA_sl) (@lenA_nil)))) (zZ (zZ (@lenA_str) (zZ (@awpB_min) (@awpB_max))) (zZ (@awpB_max3) (zZ (@awpB_min3) (@minA_int))))) (zZ (zZ (zZ (@maxA_int) (zZ (@bin_add) (@bin_sub))) (zZ (@bin_mul) (zZ (@bin_and) (@bin_or)))) (zZ (zZ (@bin_xor) (zZ (@bin_eql) (@bin_neq))) (zZ (zZ (@bin_lss) (@bin_leq)) (zZ (@bin_gtr) (@bin_geq))))))))) (zZ (zZ (zZ (zZ (zZ (zZ (zZ (@place_eptr) (zZ (@place_place) (@boxA_box))) (zZ (@awpRet_tmp) (zZ (@awpRet_cell) (@awpRet_many)))) (zZ (zZ (@awpRes_nil) (zZ (@awpRes_tmp) (@awpRes_cell))) (zZ (@cond_true.{1}) (zZ (@cond_false.{1}) (@init_get))))) (zZ (zZ (zZ (@zKa.{0}) (zZ (@zPa.{0}) (@List.getElem?_nil.{0}))) (zZ (@zXa.{0}) (zZ (@Option.getD_none.{0}) (@zYa.{0})))) (zZ (zZ (@Option.bind_some.{0,0}) (zZ (@beq_self_eq_true.{0}) (@List.length_map.{0,0}))) (zZ (@List.toList_toArray.{0}) (zZ (@callV_clo) (@awpOp_nc)))))) (zZ (zZ (zZ (zZ (@nc_place) (zZ (@nc_eptr) (@nc_ptr))) (zZ (@awpOp_fa) (zZ (@fa_place) (@fa_eptr)))) (zZ (zZ (@fa_ptr) (zZ (@awpOp_field) (@field_agg))) (zZ (@awpOp_box) (zZ (@box_v) (@box_sl))))) (zZ (zZ (zZ (@box_agg) (zZ (@box_ptr) (@box_mp))) (zZ (@box_clo) (zZ (@awpOp_alloc) (@awpOp_store)))) (zZ (zZ (@awpOp_mf) (zZ (@place_ptr) (@objA_cells))) (zZ (zZ (@esc_tmp) (@esc_const)) (zZ (@esc_func) (@escs_nil))))))) (zZ (zZ (zZ (zZ (zZ (@escs_cons) (zZ (@escX_box) (@escX_own))) (zZ (@escX_alias) (zZ (@escX_v) (@escX_sl)))) (zZ (zZ (@escX_agg) (zZ (@escX_tup) (@escX_eptr))) (zZ (@escX_ptr) (zZ (@escX_mp) (@escX_clo))))) (zZ (zZ (zZ (@escX_any) (zZ (@retX_box) (@retX_own))) (zZ (@retX_alias) (zZ (@retX_v) (@retX_sl)))) (zZ (zZ (@retX_agg) (zZ (@retX_tup) (@retX_eptr))) (zZ (zZ (@retX_ptr) (@retX_mp)) (zZ (@retX_clo) (@retX_any)))))) (zZ (zZ (zZ (zZ (@List.append_nil.{0}) (zZ (@List.cons_append.{0}) (@List.nil_append.{0}))) (zZ (@List.drop_zero.{0}) (zZ (@List.drop_succ_cons.{0}) (@zKb)))) (zZ (zZ (@Nat.add_zero) (zZ (@binX_int) (@binX_bool))) (zZ (@binX_str) (zZ (@eqK_eql) (@eqK_neq))))) (zZ (zZ (zZ (@nilSl_nil) (zZ (@nilSl_cons) (@nilPt_nil))) (zZ (@nilPt_ptr) (zZ (@nilPt_eptr) (@nilMp_nil)))) (zZ (zZ (@nilMp_mp) (zZ (@nilFn_nil) (@nilFn_clo))) (zZ (zZ (@bui_copy) (@slotOf_tmp)) (zZ (@slotA_own) (@slotA_alias)))))))) (zZ (zZ (zZ (zZ (zZ (zZ (@copyTo_sl) (zZ (@awpOp_index) (@idxX_sl))) (zZ (@idxX_v) (zZ (@idxX_alias) (@place_elt)))) (zZ (zZ (@nc_elt) (zZ (@fa_elt) (@idxX_some))) (zZ (@awp_draw) (zZ (@treeA_some) (@tree_done))))) (zZ (zZ (zZ (@tree_take) (zZ (@tree_one) (@guardA_tup))) (zZ (@killed_iter) (zZ (@mvA_iter) (@tkA_iter)))) (zZ (zZ (@pubs_nil) (zZ (@pubs_cons) (@pub1_box))) (zZ (zZ (@pub1_own) (@treeT_some)) (zZ (@take_load) (@take_conv)))))) (zZ (zZ (zZ (zZ (@takeC_int) (zZ (@takeC_sl) (@slA_sl))) (zZ (@eptrA_eptr) (zZ (@take_move) (@take_pick)))) (zZ (zZ (@take_bin) (zZ (@take_un) (@take_ext))) (zZ (@take_nc) (zZ (@take_fa) (@take_idx))))) (zZ (zZ (zZ (@take_index) (zZ (@take_slice) (@take_call))) (zZ (@awpOp_makeMap) (zZ (@awpOp_lookup) (@awpOp_update)))) (zZ (zZ (@awpOp_insert) (zZ (@awpOp_range) (@awpOp_next))) (zZ (zZ (@awpOp_entry) (@awpOp_build)) (zZ (@bui_delete) (@bui_clear))))))) (zZ (zZ (zZ (zZ (zZ (@List.zip_cons_cons.{0,0}) (zZ (@List.zip_nil_left.{0,0}) (@true_and))) (zZ (@extS_tup) (zZ (@extS_alias) (@extAl_tup)))) (zZ (zZ (@extAl_otup) (zZ (@mvA_otup) (@mvA_part))) (zZ (@tkA_part) (zZ (@tkPart_otup) (@killed_part))))) (zZ (zZ (zZ (@killed_otup) (zZ (@awpRetO_eq) (@retOX_tmp))) (zZ (@resO_nil) (zZ (@resO_0) (@resO_s)))) (zZ (zZ (@resO_c) (zZ (@ownTup_own) (@ownTup_v0))) (zZ (zZ (@ownTup_v1) (@clearX_mp)) (zZ (@clearX_osl) (@mvA_osl)))))) (zZ (zZ (zZ (zZ (@tkA_osl) (zZ (@frzA_osl) (@look_osl))) (zZ (@val_osl) (zZ (@res1_osl) (@killed_osl)))) (zZ (zZ (@escX_osl) (zZ (@lenA_osl) (@idxX_osl))) (zZ (@objA_row) (zZ (@retX_osl) (@ext_0))))) (zZ (zZ (zZ (@ext_1) (zZ (@ext_2) (@ext_3))) (zZ (@escX_place) (zZ (@escQ_box) (@escQ_ptr)))) (zZ (zZ (@tkA_box) (zZ (@tkA_place) (@boxA_eptr))) (zZ (zZ (@boxA_ptr) (@retX_place)) (zZ (@Bool.not_false) (@Bool.not_true)))))))))) := zZ (zZ (zZ (zZ (zZ (zZ (zZ (zZ (@bui_len) (zZ (@bui_min) (@bui_max))) (zZ (@bui_append) (zZ (@awpOp_un) (@un_not)))) (zZ (zZ (@un_neg) (zZ (@un_xor) (@awpOp_slice))) (zZ (@awpOp_make) (zZ (@Option.map_some.{0,0}) (@Option.map_none.{0,0}))))) (zZ (zZ (zZ (@cv_v) (zZ (@cv_sl) (@awpOp_bs))) (zZ (@List.map_cons.{0,0}) (zZ (@List.map_nil.{0,0}) (@cells_v)))) (zZ (zZ (@cells_sl) (zZ (@cells_agg) (@cells_ptr))) (zZ (@cells_mp) (zZ (@cells_clo) (@cells_any)))))) (zZ (zZ (zZ (zZ (@awpRet_zero) (zZ (@put_app) (@set_app))) (zZ (@killed_v) (zZ (@killed_sl) (@killed_own)))) (zZ (zZ (@killed_agg) (zZ (@killed_tup) (@killed_box))) (zZ (@killed_eptr) (zZ (@killed_ptr) (@killed_mp))))) (zZ (zZ (zZ (@killed_clo) (zZ (@killed_any) (@killed_alias))) (zZ (@killed_place) (zZ (@killed_elt) (@mk_app)))) (zZ (zZ (@encB_cells) (zZ (@val_encB) (@hid1.{0,1}))) (zZ (zZ (@hid2.{0,0,1}) (@hid3.{0,0,0,1})) (zZ (@mv_tmp) (@mv_const))))))) (zZ (zZ (zZ (zZ (zZ (@mv_func) (zZ (@tk_tmp) (@tk_const))) (zZ (@tk_func) (zZ (@frz_tmp) (@frz_const)))) (zZ (zZ (@frz_func) (zZ (@frzs_nil) (@frzs_cons))) (zZ (@ev_tmp) (zZ (@ev_const) (@ev_func))))) (zZ (zZ (zZ (@mvA_own) (zZ (@mvA_box) (@mvA_alias))) (zZ (@mvA_place) (zZ (@mvA_elt) (@tkA_own)))) (zZ (zZ (@tkA_alias) (zZ (@tkAl_own) (@frzA_own))) (zZ (zZ (@frzA_alias) (@frzAl_own)) (zZ (@look_alias) (@lookAl_own)))))) (zZ (zZ (zZ (zZ (@look_own) (zZ (@cst_int) (@cst_bool))) (zZ (@cst_string) (zZ (@cst_nil) (@cst_nilp)))) (zZ (zZ (@cst_nilm) (zZ (@mvA_v) (@tkA_v))) (zZ (@frzA_v) (zZ (@look_v) (@val_v))))) (zZ (zZ (zZ (@res1_v) (zZ (@mvA_sl) (@tkA_sl))) (zZ (@frzA_sl) (zZ (@look_sl) (@val_sl)))) (zZ (zZ (@res1_sl) (zZ (@mvA_agg) (@tkA_agg))) (zZ (zZ (@frzA_agg) (@look_agg)) (zZ (@val_agg) (@res1_agg)))))))) (zZ (zZ (zZ (zZ (zZ (zZ (@mvA_tup) (zZ (@tkA_tup) (@frzA_tup))) (zZ (@look_tup) (zZ (@val_tup) (@res1_tup)))) (zZ (zZ (@mvA_eptr) (zZ (@tkA_eptr) (@frzA_eptr))) (zZ (@look_eptr) (zZ (@val_eptr) (@res1_eptr))))) (zZ (zZ (zZ (@mvA_ptr) (zZ (@tkA_ptr) (@frzA_ptr))) (zZ (@look_ptr) (zZ (@val_ptr) (@res1_ptr)))) (zZ (zZ (@mvA_mp) (zZ (@tkA_mp) (@frzA_mp))) (zZ (@look_mp) (zZ (@val_mp) (@res1_mp)))))) (zZ (zZ (zZ (zZ (@mvA_clo) (zZ (@tkA_clo) (@frzA_clo))) (zZ (@look_clo) (zZ (@val_clo) (@res1_clo)))) (zZ (zZ (@mvA_any) (zZ (@tkA_any) (@frzA_any))) (zZ (@look_any) (zZ (@val_any) (@res1_any))))) (zZ (zZ (zZ (@res1_own) (zZ (@awp_skip) (@awp_region))) (zZ (@awp_seq) (zZ (@awp_cond) (@awp_block)))) (zZ (zZ (@awp_exit) (zZ (@awp_scope) (@awp_label))) (zZ (zZ (@awp_ret) (@thenO_n)) (zZ (@thenO_e) (@thenO_r))))))) (zZ (zZ (zZ (zZ (zZ (@blockO_n) (zZ (@blockO_r) (@blockO_e))) (zZ (@endO_n) (zZ (@endO_r) (@awpOps_nil)))) (zZ (zZ (@awpOps_cons) (zZ (@awpAt_none) (@awpAt_some))) (zZ (@awpGuard_some) (zZ (@guardA_tt) (@guardA_tf))))) (zZ (zZ (zZ (@guardA_ft) (zZ (@guardA_ff) (@putD_some))) (zZ (@putD_none) (zZ (@condA_t) (@condA_f)))) (zZ (zZ (@awpOp_move) (zZ (@awpOp_assign) (@awpOp_pick))) (zZ (zZ (@awpOp_bin) (@awpOp_conv)) (zZ (@awpOp_idx) (@awpOp_load)))))) (zZ (zZ (zZ (zZ (@awpOp_ext) (zZ (@awpOp_call) (@awpOp_builtin))) (zZ (@awpB_len) (zZ (@lenA_sl) (@lenA_nil)))) (zZ (zZ (@lenA_str) (zZ (@awpB_min) (@awpB_max))) (zZ (@awpB_max3) (zZ (@awpB_min3) (@minA_int))))) (zZ (zZ (zZ (@maxA_int) (zZ (@bin_add) (@bin_sub))) (zZ (@bin_mul) (zZ (@bin_and) (@bin_or)))) (zZ (zZ (@bin_xor) (zZ (@bin_eql) (@bin_neq))) (zZ (zZ (@bin_lss) (@bin_leq)) (zZ (@bin_gtr) (@bin_geq))))))))) (zZ (zZ (zZ (zZ (zZ (zZ (zZ (@place_eptr) (zZ (@place_place) (@boxA_box))) (zZ (@awpRet_tmp) (zZ (@awpRet_cell) (@awpRet_many)))) (zZ (zZ (@awpRes_nil) (zZ (@awpRes_tmp) (@awpRes_cell))) (zZ (@cond_true.{1}) (zZ (@cond_false.{1}) (@init_get))))) (zZ (zZ (zZ (@zKa.{0}) (zZ (@zPa.{0}) (@List.getElem?_nil.{0}))) (zZ (@zXa.{0}) (zZ (@Option.getD_none.{0}) (@zYa.{0})))) (zZ (zZ (@Option.bind_some.{0,0}) (zZ (@beq_self_eq_true.{0}) (@List.length_map.{0,0}))) (zZ (@List.toList_toArray.{0}) (zZ (@callV_clo) (@awpOp_nc)))))) (zZ (zZ (zZ (zZ (@nc_place) (zZ (@nc_eptr) (@nc_ptr))) (zZ (@awpOp_fa) (zZ (@fa_place) (@fa_eptr)))) (zZ (zZ (@fa_ptr) (zZ (@awpOp_field) (@field_agg))) (zZ (@awpOp_box) (zZ (@box_v) (@box_sl))))) (zZ (zZ (zZ (@box_agg) (zZ (@box_ptr) (@box_mp))) (zZ (@box_clo) (zZ (@awpOp_alloc) (@awpOp_store)))) (zZ (zZ (@awpOp_mf) (zZ (@place_ptr) (@objA_cells))) (zZ (zZ (@esc_tmp) (@esc_const)) (zZ (@esc_func) (@escs_nil))))))) (zZ (zZ (zZ (zZ (zZ (@escs_cons) (zZ (@escX_box) (@escX_own))) (zZ (@escX_alias) (zZ (@escX_v) (@escX_sl)))) (zZ (zZ (@escX_agg) (zZ (@escX_tup) (@escX_eptr))) (zZ (@escX_ptr) (zZ (@escX_mp) (@escX_clo))))) (zZ (zZ (zZ (@escX_any) (zZ (@retX_box) (@retX_own))) (zZ (@retX_alias) (zZ (@retX_v) (@retX_sl)))) (zZ (zZ (@retX_agg) (zZ (@retX_tup) (@retX_eptr))) (zZ (zZ (@retX_ptr) (@retX_mp)) (zZ (@retX_clo) (@retX_any)))))) (zZ (zZ (zZ (zZ (@List.append_nil.{0}) (zZ (@List.cons_append.{0}) (@List.nil_append.{0}))) (zZ (@List.drop_zero.{0}) (zZ (@List.drop_succ_cons.{0}) (@zKb)))) (zZ (zZ (@Nat.add_zero) (zZ (@binX_int) (@binX_bool))) (zZ (@binX_str) (zZ (@eqK_eql) (@eqK_neq))))) (zZ (zZ (zZ (@nilSl_nil) (zZ (@nilSl_cons) (@nilPt_nil))) (zZ (@nilPt_ptr) (zZ (@nilPt_eptr) (@nilMp_nil)))) (zZ (zZ (@nilMp_mp) (zZ (@nilFn_nil) (@nilFn_clo))) (zZ (zZ (@bui_copy) (@slotOf_tmp)) (zZ (@slotA_own) (@slotA_alias)))))))) (zZ (zZ (zZ (zZ (zZ (zZ (@copyTo_sl) (zZ (@awpOp_index) (@idxX_sl))) (zZ (@idxX_v) (zZ (@idxX_alias) (@place_elt)))) (zZ (zZ (@nc_elt) (zZ (@fa_elt) (@idxX_some))) (zZ (@awp_draw) (zZ (@treeA_some) (@tree_done))))) (zZ (zZ (zZ (@tree_take) (zZ (@tree_one) (@guardA_tup))) (zZ (@killed_iter) (zZ (@mvA_iter) (@tkA_iter)))) (zZ (zZ (@pubs_nil) (zZ (@pubs_cons) (@pub1_box))) (zZ (zZ (@pub1_own) (@treeT_some)) (zZ (@take_load) (@take_conv)))))) (zZ (zZ (zZ (zZ (@takeC_int) (zZ (@takeC_sl) (@slA_sl))) (zZ (@eptrA_eptr) (zZ (@take_move) (@take_pick)))) (zZ (zZ (@take_bin) (zZ (@take_un) (@take_ext))) (zZ (@take_nc) (zZ (@take_fa) (@take_idx))))) (zZ (zZ (zZ (@take_index) (zZ (@take_slice) (@take_call))) (zZ (@awpOp_makeMap) (zZ (@awpOp_lookup) (@awpOp_update)))) (zZ (zZ (@awpOp_insert) (zZ (@awpOp_range) (@awpOp_next))) (zZ (zZ (@awpOp_entry) (@awpOp_build)) (zZ (@bui_delete) (@bui_clear))))))) (zZ (zZ (zZ (zZ (zZ (@List.zip_cons_cons.{0,0}) (zZ (@List.zip_nil_left.{0,0}) (@true_and))) (zZ (@extS_tup) (zZ (@extS_alias) (@extAl_tup)))) (zZ (zZ (@extAl_otup) (zZ (@mvA_otup) (@mvA_part))) (zZ (@tkA_part) (zZ (@tkPart_otup) (@killed_part))))) (zZ (zZ (zZ (@killed_otup) (zZ (@awpRetO_eq) (@retOX_tmp))) (zZ (@resO_nil) (zZ (@resO_0) (@resO_s)))) (zZ (zZ (@resO_c) (zZ (@ownTup_own) (@ownTup_v0))) (zZ (zZ (@ownTup_v1) (@clearX_mp)) (zZ (@clearX_osl) (@mvA_osl)))))) (zZ (zZ (zZ (zZ (@tkA_osl) (zZ (@frzA_osl) (@look_osl))) (zZ (@val_osl) (zZ (@res1_osl) (@killed_osl)))) (zZ (zZ (@escX_osl) (zZ (@lenA_osl) (@idxX_osl))) (zZ (@objA_row) (zZ (@retX_osl) (@ext_0))))) (zZ (zZ (zZ (@ext_1) (zZ (@ext_2) (@ext_3))) (zZ (@escX_place) (zZ (@escQ_box) (@escQ_ptr)))) (zZ (zZ (@tkA_box) (zZ (@tkA_place) (@boxA_eptr))) (zZ (zZ (@boxA_ptr) (@retX_place)) (zZ (@Bool.not_false) (@Bool.not_true)))))))))
end Go.Vm
namespace Go.Vm
open Go.RowKit
theorem wrap_i64 {n : Int} (h0 : -9223372036854775808 ≤ n) (h1 : n ≤ 9223372036854775807) : IntKind.i64.wrap n = n := by
 simp [IntKind.wrap, IntKind.bits, IntKind.signed]; omega
theorem wrap_u64 {n : Int} (h0 : 0 ≤ n) (h1 : n < 18446744073709551616) : IntKind.u64.wrap n = n := by
 simp [IntKind.wrap, IntKind.bits, IntKind.signed]; omega
def startG (w : World) : Gh := { pub := fun b => match w.heap[b]? with | some (.cells c _ _) => c.size | _ => 0, n := 0, loc := fun _ => 0 }
theorem startG_cell {w : World} {b j : Nat} {v : Value} (h : w.cell? ⟨b, j, none⟩ = some v) : j < (startG w).pub b := by
 unfold World.cell? at h
 unfold startG
 simp only at h ⊢
 split at h
 · rename_i c e fr hb
   rw [hb]
   simp only [Option.isSome_none, zOb, if_false] at h
   rcases zMa j c.size with h' | h'
   · exact h'
   · rw [Array.getElem?_eq_none h'] at h; cases h
 · cases h
theorem law_calls {P : Program} {f : FuncId} {S : Spec} (hd : Does P f S) {args : List AV} {w : World} {vs : Array Value} {v : Value} (hS : S args [] fun r _ => r = .v v)
   (hl : vs.size = args.length) (hr : ∀ j u, args[j]? = some u → Rep w (startG w) u (vs.getD j undef)) (hg : LaidG w (startG w)) :
   Calls P f vs w fun e w' => e = .returned v ∧ Below w.heap.size w w' := by
 have hh : HeapRep w (startG w) [] := ⟨rfl, fun i hi => absurd hi (Nat.not_lt_zero _), fun i j hi => absurd hi (Nat.not_lt_zero _), fun i o ho => by simp at ho⟩
 have hf : ∀ b, w.heap.size ≤ b → (startG w).pub b = 0 := fun b hb => by simp [startG, Array.getElem?_eq_none hb]
 refine (hd.2 args [] _ hS w (startG w) vs hl hr hh hf hg).mono ?_
 rintro e w' ⟨r, h', g', v', rfl, rfl, hres, -, hfr, -⟩
 refine ⟨?_, hfr.os, hfr.tape, hfr.output, hfr.size, fun k hk => hfr.block k hk fun i hi => absurd hi (Nat.not_lt_zero _)⟩
 have hres' : Rep w' g' (.v v) v' := hres
 rw [(rep_v hres').1]
def Weak (S : Spec) : Spec := fun args h Q => S args h fun r h' => ∃ r', Ga r r' ∧ Q r' h'
theorem Does.weak {P : Program} {f : FuncId} {S : Spec} (hd : Does P f S) : Does P f (Weak S) := by
 refine ⟨hd.1, fun args h Q hS w g vs hvs hrep hh hf hlaid => (hd.2 args h _ hS w g vs hvs hrep hh hf hlaid).mono ?_⟩
 rintro e w' ⟨r, h', g', v, ⟨r', hga, hq⟩, he, hres, hrest⟩
 refine ⟨r', h', g', v, hq, he, ?_, hrest⟩
 have hr : ∀ x, Rep w' g' x v → ResRep w' g' w.heap.size x v := fun x hx => by
   have := rep_shared hx
   cases x <;> first | exact hx | (cases this)
 cases hga with
 | refl => exact hres
 | any => exact hr _ (.any v)
 | nil sz => exact hr _ (ga_rep (.nil sz) hres)
 | agg h => exact hr _ (ga_rep (.agg h) hres)
 | tup h => exact hr _ (ga_rep (.tup h) hres)
theorem Does.imp {P : Program} {f : FuncId} {S S' : Spec} (hd : Does P f S) (h : ∀ args h Q, S' args h Q → S args h Q) : Does P f S' :=
 ⟨hd.1, fun args hp Q hS => hd.2 args hp Q (h _ _ _ hS)⟩
def oneT (P : Program) (t : TypeId) : Bool :=
 match P.underlying t, szT P t with
 | some d, some _ => match d with
   | .struct _ | .array _ _ => false
   | _ => true
 | _, _ => false
theorem ofCells_one {P : Program} {t : TypeId} (h : oneT P t = true) (c : AV) (cs : List AV) (K : AV → Prop) : ofCells P t (c :: cs) K = K (val c) := by
 unfold oneT at h
 unfold ofCells
 cases hu : P.underlying t with
 | none => rw [hu] at h; cases h
 | some d =>
   cases hs : szT P t with
   | none => rw [hu, hs] at h; cases h
   | some n =>
     rw [hu, hs] at h
     cases d <;> first | (cases h; done) | simp
def aggN (P : Program) (t : TypeId) (n : Nat) : Bool :=
 match P.underlying t, szT P t with
 | some d, some m => match d with
   | .struct _ | .array _ _ => m == n
   | _ => false
 | _, _ => false
theorem ofCells_agg {P : Program} {t : TypeId} {n : Nat} (h : aggN P t n = true) (cs : List AV) (K : AV → Prop) : ofCells P t cs K = (n ≤ cs.length ∧ K (.agg (cs.take n))) := by
 unfold aggN at h
 unfold ofCells
 cases hu : P.underlying t with
 | none => rw [hu] at h; cases h
 | some d =>
   cases hs : szT P t with
   | none => rw [hu, hs] at h; cases h
   | some m =>
     rw [hu, hs] at h
     cases d <;> first | (cases h; done) | (have : m = n := by simpa using h
                                            subst this; rfl)
end Go.Vm
namespace Go.Vm
open Go.RowKit
theorem solid_v (x : Value) : solid (.v x) = true := id rfl
theorem solid_sl (sz : Nat) (xs : List AV) : solid (.sl sz xs) = true := id rfl
theorem solid_agg (xs : List AV) : solid (.agg xs) = true := id rfl
theorem solid_eptr (xs : List AV) : solid (.eptr xs) = true := id rfl
theorem solid_ptr (i o : Nat) : solid (.ptr i o) = true := id rfl
theorem solid_mp (i : Nat) : solid (.mp i) = true := id rfl
theorem solid_clo (f : FuncId) (xs : List AV) : solid (.clo f xs) = true := id rfl
theorem cells_eptr (xs : List AV) : (AV.eptr xs).cells = [.eptr xs] := id rfl
def stoOk (n o : Nat) (x : AV) (len : Nat) : Bool := solid x && (x.cells.length == n) && decide (o + n ≤ len)
theorem stoOk_eq (n o : Nat) (x : AV) (len : Nat) : stoOk n o x len = (solid x && (x.cells.length == n) && decide (o + n ≤ len)) := id rfl
def stoP (n i o : Nat) (x : AV) (s : Slots) (h : Heap) (K : AV → Slots → Heap → Prop) : Option AObj → Prop
 | some (.cells cs) => stoOk n o x cs.length = true ∧ K .any s (h.set i (.cells (putCells cs o x.cells)))
 | _ => False
def stoY (n i o : Nat) (x : AV) (s : Slots) (h : Heap) (K : AV → Slots → Heap → Prop) : Option AObj → Prop
 | some (.cells cs) => stoOk n o x cs.length = true ∧ K .any s (h.set i (.cells (putCells cs o x.cells)))
 | some (.row e m cs) => stoOk n o x cs.length = true ∧ K .any s (h.set i (.row e m (putCells cs o x.cells)))
 | _ => False
def stoX (n k o : Nat) (x : AV) (s : Slots) (h : Heap) (K : AV → Slots → Heap → Prop) : AV → Prop
 | .box cs => stoOk n o x cs.length = true ∧ K .any (set s k (.box (putCells cs o x.cells))) h
 | .ptr i o0 => stoP n i (o0 + o) x s h K h[i]?
 | _ => False
theorem sto_ok_iff {n o : Nat} {x : AV} {l : Nat} {A : Prop} : (solid x = true ∧ some n = some x.cells.length ∧ o + x.cells.length ≤ l ∧ A) = (stoOk n o x l = true ∧ A) := by
 simp only [stoOk, zTa, beq_iff_eq, decide_eq_true_eq, Option.some.injEq, eq_iff_iff]
 constructor
 · rintro ⟨h1, h2, h3, h4⟩; exact ⟨⟨⟨h1, h2.symm⟩, by omega⟩, h4⟩
 · rintro ⟨⟨⟨h1, h2⟩, h3⟩, h4⟩; exact ⟨h1, h2.symm, by omega, h4⟩
theorem sto_place (n k o : Nat) (x : AV) (s : Slots) (h : Heap) (K : AV → Slots → Heap → Prop) : awpStore (some n) (.place k o) x s h K = stoX n k o x s h K (s k) := by
 cases hs : s k with
 | box cs => simp only [stoX, awpStore, hs, sto_ok_iff]
 | ptr i o0 =>
   simp only [stoX, awpStore, hs]
   cases hh : h[i]? with
   | none => simp only [stoP, and_false]
   | some y => cases y <;> simp only [stoP, and_false, sto_ok_iff]
 | _ => simp only [stoX, awpStore, hs, and_false]
theorem sto_box (n k o : Nat) (x : AV) (s : Slots) (h : Heap) (K : AV → Slots → Heap → Prop) (cs : List AV) : stoX n k o x s h K (.box cs) = (stoOk n o x cs.length = true ∧ K .any (set s k (.box (putCells cs o x.cells))) h) := id rfl
theorem sto_pp (n k o : Nat) (x : AV) (s : Slots) (h : Heap) (K : AV → Slots → Heap → Prop) (i o0 : Nat) : stoX n k o x s h K (.ptr i o0) = stoP n i (o0 + o) x s h K h[i]? := id rfl
theorem sto_pc (n i o : Nat) (x : AV) (s : Slots) (h : Heap) (K : AV → Slots → Heap → Prop) (cs : List AV) : stoP n i o x s h K (some (.cells cs)) = (stoOk n o x cs.length = true ∧ K .any s (h.set i (.cells (putCells cs o x.cells)))) := id rfl
theorem sto_ptr (n i o : Nat) (x : AV) (s : Slots) (h : Heap) (K : AV → Slots → Heap → Prop) : awpStore (some n) (.ptr i o) x s h K = stoY n i o x s h K h[i]? := by
 simp only [awpStore]
 cases hh : h[i]? with
 | none => simp only [stoY, and_false]
 | some y => cases y <;> simp only [stoY, and_false, sto_ok_iff]
theorem sto_cells (n i o : Nat) (x : AV) (s : Slots) (h : Heap) (K : AV → Slots → Heap → Prop) (cs : List AV) : stoY n i o x s h K (some (.cells cs)) = (stoOk n o x cs.length = true ∧ K .any s (h.set i (.cells (putCells cs o x.cells)))) := id rfl
theorem put_nil (cs : List AV) : putCells cs 0 [] = cs := by simp [putCells]
theorem put_zero (c x : AV) (cs xs : List AV) : putCells (c :: cs) 0 (x :: xs) = x :: putCells cs 0 xs := by simp [putCells]
theorem put_succ (c : AV) (cs xs : List AV) (o : Nat) : putCells (c :: cs) (o + 1) xs = c :: putCells cs o xs := by
 simp [putCells, show o + 1 + xs.length = (o + xs.length) + 1 by omega]
def bldE (ps : List (Nat × Nat)) (cs : List AV) (K : AV → Prop) : List (Nat × AV) → Prop
 | [] => K (.agg cs)
 | (i, x) :: r => match ps[i]? with
   | some (off, n) => stoOk n off x cs.length = true ∧ bldE ps (putCells cs off x.cells) K r
   | none => False
def bldF (ps : List (Nat × Nat)) (cs : List AV) (K : AV → Prop) (x : AV) (r : List (Nat × AV)) : Option (Nat × Nat) → Prop
 | some (off, n) => stoOk n off x cs.length = true ∧ bldE ps (putCells cs off x.cells) K r
 | none => False
theorem bld_nil (ps : List (Nat × Nat)) (cs : List AV) (K : AV → Prop) : bldE ps cs K [] = K (.agg cs) := id rfl
theorem bld_cons (ps : List (Nat × Nat)) (cs : List AV) (K : AV → Prop) (i : Nat) (x : AV) (r : List (Nat × AV)) : bldE ps cs K ((i, x) :: r) = bldF ps cs K x r ps[i]? := by
 simp only [bldE, bldF]
theorem bld_some (ps : List (Nat × Nat)) (cs : List AV) (K : AV → Prop) (x : AV) (r : List (Nat × AV)) (off n : Nat) : bldF ps cs K x r (some (off, n)) = (stoOk n off x cs.length = true ∧ bldE ps (putCells cs off x.cells) K r) := id rfl
theorem bldE_fill (ps : List (Nat × Nat)) (K : AV → Prop) : ∀ (parts : List (Nat × AV)) (cs : List AV), bldE ps cs K parts = (match fillA ps cs parts with | some cs => K (.agg cs) | none => False)
 | [], cs => rfl
 | (i, x) :: r, cs => by
   simp only [bldE, fillA]
   cases hp : ps[i]? with
   | none => rfl
   | some p =>
     obtain ⟨off, n⟩ := p
     simp only
     cases hk : (solid x && x.cells.length == n && decide (off + n ≤ cs.length))
     · simp [stoOk, hk]
     · have hk' := hk
       simp only [zTa, beq_iff_eq, decide_eq_true_eq] at hk'
       simp only [stoOk, hk, true_and, if_true]
       rw [bldE_fill ps K r]
       simp only [putCells, hk'.1.2]
theorem build_eq {P : Program} {t : TypeId} {places : List (Nat × Nat)} {zs : Array Value} (hf : fieldsAt P t = some places) (hz : (P.info? t).bind (·.zero) = some (.agg zs)) (hp : zs.toList.all plain = true) (parts : List (Nat × AV)) (K : AV → Prop) :
   awpBuild P t parts K = bldE places (zs.toList.map .v) K parts := by
 unfold awpBuild
 simp only [hf, hz, bldE_fill]
 have : zs.all plain = true := by rw [← Array.all_toList]; exact hp
 simp only [this, true_and]
 cases fillA places (List.map AV.v zs.toList) parts <;> rfl
def bsIx (k : Nat) : List Nat → Bool
 | [] => true
 | i :: r => (i == k) && bsIx (k + 1) r
def bsAll : List AV → Bool
 | [] => true
 | x :: r => solid x && (x.cells.length == 1) && bsAll r
theorem bsIx_nil (k : Nat) : bsIx k [] = true := id rfl
theorem bsIx_cons (k i : Nat) (r : List Nat) : bsIx k (i :: r) = ((i == k) && bsIx (k + 1) r) := id rfl
theorem bsAll_nil : bsAll [] = true := id rfl
theorem bsAll_cons (x : AV) (r : List AV) : bsAll (x :: r) = (solid x && (x.cells.length == 1) && bsAll r) := id rfl
def idxE (b : Bool) (K : AV → Prop) : Option AV → Prop
 | some x => b = true ∧ K (.eptr x.cells)
 | none => False
theorem idxE_some (b : Bool) (K : AV → Prop) (x : AV) : idxE b K (some x) = (b = true ∧ K (.eptr x.cells)) := id rfl
theorem idx_lit (e sz : Nat) (xs : List AV) (k : IntKind) (n : Int) (K : AV → Prop) : awpIdx (some (e, sz)) (.sl sz xs) (.v (.int k n)) K = idxE (decide (0 ≤ n)) K xs[n.toNat]? := by
 simp only [awpIdx, asSl, if_true, eq_iff_iff]
 constructor
 · rintro ⟨⟨h0, h1⟩, h2⟩
   have hlt : n.toNat < xs.length := by omega
   rw [zLa hlt]
   exact ⟨by simpa using h0, h2 _ (zLa hlt)⟩
 · intro h
   cases hx : xs[n.toNat]? with
   | none => rw [hx] at h; exact h.elim
   | some x =>
     rw [hx] at h
     obtain ⟨h0, h1⟩ := h
     have h0' : 0 ≤ n := by simpa using h0
     have hlt : n.toNat < xs.length := by
       rcases zMa n.toNat xs.length with h' | h'
       · exact h'
       · rw [zJa h'] at hx; cases hx
     exact ⟨⟨h0', by omega⟩, fun y hy => by cases hy; exact h1⟩
theorem take_sc (n : Nat) (a : AV) (l : List AV) : (a :: l).take (n + 1) = a :: l.take n := List.take_succ_cons ..
theorem take_z (l : List AV) : l.take 0 = [] := List.take_zero
theorem alloc_eq {P : Program} {t : TypeId} {cs : Array Value} {l : List AV} (hz : (P.info? t).bind (·.zero) = some (.agg cs)) (hp : cs.toList.all plain = true) (hl : cs.toList.map .v = l) (K : AV → Prop) : awpAlloc ((P.info? t).bind (·.zero)) K = K (.box l) := by
 rw [← hl]; exact alloc_agg hz (by rw [← Array.all_toList]; exact hp) K
theorem S : type_of% (zZ (zZ (zZ (zZ (zZ (@sto_place) (@sto_box)) (zZ (@sto_pp) (@sto_pc))) (zZ (zZ (@sto_ptr) (@sto_cells)) (zZ (@stoOk_eq) (@solid_v)))) (zZ (zZ (zZ (@solid_sl) (@solid_agg)) (zZ (@solid_eptr) (@solid_ptr))) (zZ (zZ (@solid_mp) (@solid_clo)) (zZ (@cells_eptr) (zZ (@put_nil) (@put_zero)))))) (zZ (zZ (zZ (zZ (@put_succ) (@bld_nil)) (zZ (@bld_cons) (@bld_some))) (zZ (zZ (@bsIx_nil) (@bsIx_cons)) (zZ (@bsAll_nil) (@bsAll_cons)))) (zZ (zZ (zZ (@decide_true) (@Bool.and_self)) (zZ (@Bool.and_true) (@Bool.true_and))) (zZ (zZ (@take_sc) (@take_z)) (zZ (@zLb.{0}) (zZ (@List.length_nil.{0}) (@eq_self.{1}))))))) := (zZ (zZ (zZ (zZ (zZ (@sto_place) (@sto_box)) (zZ (@sto_pp) (@sto_pc))) (zZ (zZ (@sto_ptr) (@sto_cells)) (zZ (@stoOk_eq) (@solid_v)))) (zZ (zZ (zZ (@solid_sl) (@solid_agg)) (zZ (@solid_eptr) (@solid_ptr))) (zZ (zZ (@solid_mp) (@solid_clo)) (zZ (@cells_eptr) (zZ (@put_nil) (@put_zero)))))) (zZ (zZ (zZ (zZ (@put_succ) (@bld_nil)) (zZ (@bld_cons) (@bld_some))) (zZ (zZ (@bsIx_nil) (@bsIx_cons)) (zZ (@bsAll_nil) (@bsAll_cons)))) (zZ (zZ (zZ (@decide_true) (@Bool.and_self)) (zZ (@Bool.and_true) (@Bool.true_and))) (zZ (zZ (@take_sc) (@take_z)) (zZ (@zLb.{0}) (zZ (@List.length_nil.{0}) (@eq_self.{1})))))))
theorem G : type_of% (zZ E (zZ S (zZ @Bool.true_beq @Bool.false_beq))) := zZ E (zZ S (zZ @Bool.true_beq @Bool.false_beq))
theorem D : type_of% (zZ (zZ (@List.forall_mem_cons.{0}) (@List.not_mem_nil.{0})) (zZ (zZ @false_imp_iff @and_true) (zZ (@implies_true.{1}) (@implies_true.{0})))) := (zZ (zZ (@List.forall_mem_cons.{0}) (@List.not_mem_nil.{0})) (zZ (zZ @false_imp_iff @and_true) (zZ (@implies_true.{1}) (@implies_true.{0}))))
theorem dA {P : Program} {T : FuncId → Option Spec} {f : FuncId} {fn : Func} {c : Code} {S : Spec} (hT : ∀ f S, T f = some S → Does P f S) (hf : P.funcs[f]? = some fn) (hb : fn.body = some c)
 (hn : (fn.name == "runtime.NumGoroutine") = false ∧ dstsOk fn.ntmps c = true) (hS : ∀ args h Q, S args h Q → args.length ≤ fn.ntmps ∧ awp P T c (init args) h (hid (fun o s h' => endO o (hid (awpRet P fn.results.toList s h' Q) .mk)) .mk)) : Does P f S :=
 does_of_awp hT hf hb hn.1 hn.2 fun args h Q hs => ⟨(hS args h Q hs).1, by rw [awpFunc_some hb]; exact (hS args h Q hs).2⟩
theorem hwN (i : Nat) (h : i < 9223372036854775807) : IntKind.i64.wrap ((i : Int) + 1) = ((i + 1 : Nat) : Int) := by rw [wrap_i64 (by omega) (by omega)]; simp
end Go.Vm
