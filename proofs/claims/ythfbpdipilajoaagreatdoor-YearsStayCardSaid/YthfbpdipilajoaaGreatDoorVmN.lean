/- Maps, their iterators, and structs that are written out: what the interpreter says of them is so. -/
import Derived.Test.YthfbpdipilajoaaGreatDoorVmL
import Derived.MapFrom
import Derived.Maps.RangeRun
import Derived.Laws.Tables
set_option linter.unusedVariables false
set_option linter.unusedSimpArgs false
namespace Go.Vm
open Go.RowKit

section
variable {P : Program} {H : Hst} {w0 w w' : World} {g0 g g' : Gh} {s : Slots} {h h' : Heap} {a : Act} {o : Oper} {K : AV → Slots → Heap → Prop} {Q : Exit → Act → World → Prop}

theorem keyEq_iff {d : TypeDesc} {x y : Value} (hx : MapKept.IsKey d x) (hy : MapKept.IsKey d y) : keyEq x y = true ↔ y = x := by
  cases d <;> cases x <;> cases y <;> simp only [MapKept.IsKey] at hx hy
  case bool.bool.bool x y => simp only [keyEq, beq_iff_eq, Value.bool.injEq]; exact eq_comm
  case int.int.int k k1 x k2 y => subst hx; subst hy; simp only [keyEq, decide_true, Bool.true_and, beq_iff_eq, Value.int.injEq, true_and]; exact eq_comm
  case string.string.string x y => simp only [keyEq, MapKept.bytes_beq, Value.string.injEq]; exact eq_comm

/-- A block that nobody holds becomes an object. -/
theorem R.adopt (r : R H w0 g0 s h g a w) {b : Nat} {x : AObj} (hp : ∀ i, privB (s i) (tmOf a i) ≠ some b) (hl : ∀ k, k < g.n → g.loc k ≠ b) (hB : w0.heap.size ≤ b) (hlt : b < w.heap.size)
    (hobj : ∀ g', Keeps w g w g' → g'.pub = g.pub → ObjRep w g' x b) :
    ∃ g', R H w0 g0 s (h ++ [x]) g' a w ∧ Keeps w g w g' ∧ h.length < g'.n ∧ g'.loc h.length = b ∧ g'.pub = g.pub := by
  have hn := r.heap.n
  have hk : Keeps w g w { g with n := g.n + 1, loc := fun i => if i = g.n then b else g.loc i } :=
    ⟨fun _ => Nat.le_refl _, fun _ _ _ _ h => h, Nat.le_succ _, fun i hi => by simp only []; rw [if_neg (by omega)]⟩
  refine ⟨_, ?_, hk, by simp only []; omega, by simp [hn], rfl⟩
  refine ⟨r.defers, fun i => (r.slots i).keepAt hk fun b' _ => ⟨rfl, rfl⟩, r.apart, fun i b' hi k hk' => ?_, ?_, r.frame, Nat.le_trans r.n0 (Nat.le_succ _), fun i hi => ?_, r.old, fun i hi h0 => ?_, r.fresh, fun i cs hi => (r.laid i cs hi).keep hk, r.kept.trans hk⟩
  · simp only [] at hk' ⊢
    split
    · exact fun e => hp i (e ▸ hi)
    · exact r.sep i b' hi k (by omega)
  · refine ⟨by simp [hn], fun i hi => ?_, fun i j hi hj e => ?_, fun i o' ho => ?_⟩
    · simp only [] at hi ⊢
      split
      · exact hlt
      · exact r.heap.lt i (by omega)
    · simp only [] at hi hj e
      split at e <;> split at e
      · omega
      · exact absurd e.symm (hl j (by omega))
      · exact absurd e (hl i (by omega))
      · exact r.heap.inj i j (by omega) (by omega) e
    · simp only []
      rcases Nat.lt_or_ge i h.length with hlt' | hge
      · rw [List.getElem?_append_left hlt'] at ho
        rw [if_neg (by omega)]
        exact (r.heap.obj i o' ho).keepAt hk ⟨rfl, rfl⟩
      · rw [List.getElem?_append_right hge] at ho
        have hi0 : i - h.length = 0 := by
          rcases Nat.eq_zero_or_pos (i - h.length) with h0 | h0
          · exact h0
          · rw [List.getElem?_eq_none (by simp only [List.length_cons, List.length_nil]; omega)] at ho; cases ho
        rw [hi0] at ho
        simp only [List.getElem?_cons_zero, Option.some.injEq] at ho
        subst ho
        rw [if_pos (by omega)]
        exact hobj _ hk rfl
  · have := r.n0
    simp only []; rw [if_neg (by omega)]; exact r.loc0 i hi
  · simp only [] at hi ⊢
    split
    · exact hB
    · exact r.loc1 i (by omega) h0

theorem sound_makeMap {N : Nat} {t : TypeId} (ho : o.op = .makeMap t none) (r : R H w0 g0 s h g a w) (hN : a.tmps.size = N) (hd : ∀ d, o.dst = some d → d < N)
    (hK : K (.mp h.length) s (h ++ [.map [] 0])) : o.wp P a w (Aft N H w0 g0 o K) Q := by
  have r2 := r.alloc (.map #[] 0)
  have hnew := r.sep_new
  obtain ⟨g1, r3, k3, q1, q2, q3⟩ := r2.adopt (b := w.heap.size) (x := .map [] 0) hnew.1 hnew.2 r.frame.size (by simp [World.alloc_eq]) (fun g' _ hp => by
    refine ⟨?_, #[], heap_alloc_new w _, rfl, fun j u hu => by simp at hu⟩
    rw [hp]; exact r.fresh _ (Nat.le_refl _))
  unfold Oper.wp
  have hrun : (execOp a.eval o).run P w = .ok (.value (.map (some w.heap.size))) (w.alloc (.map #[] 0)) := by
    simp only [execOp, ho, Instr.makeMap, newObj, Sem.run_bind, Option.map_none]
    rfl
  rw [hrun, Oper.upon_value]
  have hrep : Rep (w.alloc (.map #[] 0)) g1 (.mp h.length) (.map (some w.heap.size)) := by
    have := Rep.mp (w := w.alloc (.map #[] 0)) (g := g1) h.length q1
    rwa [q2] at this
  refine ⟨_, s, _, g1, hK, ?_, by rw [size_put]; exact hN⟩
  cases ho : o.dst with
  | none => exact r3
  | some d => exact r3.put_rep (by rw [hN]; exact hd d ho) hrep

/-- A map's entries, as they lie. -/
theorem map_obj (r : R H w0 g0 s h g a w) {id : Nat} {es : List Ent} {clock : Nat} (ho : h[id]? = some (.map es clock)) :
    id < g.n ∧ g.pub (g.loc id) = 0 ∧ ∃ en, w.heap[g.loc id]? = some (.map en clock) ∧ en.size = es.length ∧
      ∀ (j : Nat) (u : Ent), es[j]? = some u → ∃ q, en[j]? = some q ∧ q.key = u.key ∧ q.born = u.born ∧ plain u.key = true ∧ Rep w g u.val q.val := by
  obtain ⟨h1, en, h2, h3, h4⟩ := r.heap.obj id _ ho
  exact ⟨heap_lt r ho, h1, en, h2, h3, h4⟩

theorem ents_keys {d : TypeDesc} {es : List Ent} {en : Array MapEntry} (hsz : en.size = es.length)
    (hen : ∀ (j : Nat) (u : Ent), es[j]? = some u → ∃ q, en[j]? = some q ∧ q.key = u.key ∧ q.born = u.born ∧ plain u.key = true ∧ Rep w g u.val q.val)
    (hk : ∀ e ∈ es, MapKept.IsKey d e.key) : ∀ x ∈ en.toList, MapKept.IsKey d x.key := by
  intro x hx
  obtain ⟨j, hj⟩ := List.mem_iff_getElem?.1 hx
  have hjlt : j < es.length := by
    rcases Nat.lt_or_ge j en.size with h' | h'
    · omega
    · rw [List.getElem?_eq_none (by simpa using h')] at hj; cases hj
  obtain ⟨q, q1, q2, -⟩ := hen j _ (List.getElem?_eq_getElem hjlt)
  rw [Array.getElem?_toList, q1] at hj
  cases hj
  rw [q2]
  exact hk _ (List.getElem_mem hjlt)

/-- The search in what lies there, and in what is said of it. -/
theorem find_both {d : TypeDesc} {k : Value} (hk : MapKept.IsKey d k) : ∀ (es : List Ent) (en : List MapEntry) (i : Nat), en.length = es.length →
    (∀ (j : Nat) (u : Ent), es[j]? = some u → ∃ q, en[j]? = some q ∧ q.key = u.key ∧ q.born = u.born ∧ plain u.key = true ∧ Rep w g u.val q.val) → (∀ e ∈ es, MapKept.IsKey d e.key) →
    (Instr.findNow d k en i = some none ∧ mget k es = none) ∨ ∃ j u q, Instr.findNow d k en i = some (some (i + j, q.val)) ∧ mget k es = some u ∧ es[j]? = some u ∧ en[j]? = some q ∧ u.key = k ∧ q.key = k
      ∧ (∀ e ∈ es.take j, keyEq k e.key = false)
  | [], [], i, _, _, _ => .inl ⟨rfl, rfl⟩
  | [], _ :: _, _, h, _, _ => by simp at h
  | _ :: _, [], _, h, _, _ => by simp at h
  | e :: es, q :: en, i, hl, hen, hks => by
    obtain ⟨q0, h1, h2, h3, h4, h5⟩ := hen 0 e rfl
    simp only [List.getElem?_cons_zero, Option.some.injEq] at h1
    subst h1
    have hke := hks e (List.mem_cons_self ..)
    obtain ⟨b, hb, hbi⟩ := MapKept.sameNow_of_keys hk (by rw [h2]; exact hke : MapKept.IsKey d q.key)
    rw [h2] at hb hbi
    have hkb := keyEq_iff hk hke
    cases b with
    | true =>
      have he : e.key = k := (hbi.1 rfl).symm
      exact .inr ⟨0, e, q, by simp [Instr.findNow, h2, hb], by simp [mget, hkb.2 he], rfl, rfl, he, h2.trans he, by simp⟩
    | false =>
      have hne : keyEq k e.key = false := by
        cases hq : keyEq k e.key
        · rfl
        · have := hbi.2 (hkb.1 hq).symm; cases this
      rcases find_both hk es en (i + 1) (by simpa using hl) (fun j u hu => hen (j + 1) u (by simpa using hu)) (fun x hx => hks x (List.mem_cons_of_mem _ hx)) with ⟨p1, p2⟩ | ⟨j, u, q', p1, p2, p3, p4, p5, p6, p7⟩
      · exact .inl ⟨by simp [Instr.findNow, h2, hb, p1], by simpa [mget, hne] using p2⟩
      · refine .inr ⟨j + 1, u, q', by simp [Instr.findNow, h2, hb, p1]; omega, by simpa [mget, hne] using p2, by simpa using p3, by simpa using p4, p5, p6, ?_⟩
        intro x hx
        simp only [List.take_succ_cons, List.mem_cons] at hx
        rcases hx with rfl | hx
        · exact hne
        · exact p7 x hx

theorem withKey_spec {t : TypeId} {k : AV} {KK : TypeDesc → TypeId → Value → Prop} (hK : withKey P t k KK) :
    ∃ kt et d kv, P.underlying t = some (.map kt et) ∧ P.underlying kt = some d ∧ k = .v kv ∧ MapKept.IsKey d kv ∧ KK d et kv := by
  unfold withKey at hK
  split at hK
  · rename_i kt et hu
    split at hK
    · rename_i d kv hd
      exact ⟨kt, et, d, kv, hu, hd, rfl, hK.1, hK.2⟩
    · exact hK.elim
  · exact hK.elim

theorem rep_lookRes {ok b : Bool} {x : AV} {v : Value} (h : Rep w g x v) : Rep w g (lookRes ok x b) (if ok then .tuple #[v, .bool b] else v) := by
  cases ok
  · exact h
  · refine .tup rfl fun j u hu => ?_
    match j with
    | 0 => simp at hu; subst hu; exact h
    | 1 => simp at hu; subst hu; exact .v rfl
    | j + 2 => simp at hu

theorem sound_lookup {N : Nat} {t : TypeId} {m k : Operand} {ok : Bool} (ho : o.op = .lookup t m k ok) (r : R H w0 g0 s h g a w) (hN : a.tmps.size = N) (hd : ∀ d, o.dst = some d → d < N)
    (hK : awpLookup P t (ev s m) (ev s k) ok h fun v => K v s h) : o.wp P a w (Aft N H w0 g0 o K) Q := by
  obtain ⟨kt, et, d, kv, hu, hkd, hek, hkk, hK⟩ := withKey_spec hK
  have hk := r.eval k
  rw [hek] at hk
  have hkv : a.eval k = kv := (rep_v hk).1
  have hm := r.eval m
  -- what is there not
  have miss : ∀ es : Array MapEntry, Instr.findNow d kv es.toList 0 = some none → (match (P.info? et).bind (·.zero) with | some z => K (lookRes ok (cst z) false) s h | none => False) →
      (∀ e : Bool, True) → ((a.eval m = .map none ∧ es = #[]) ∨ ∃ b clock, a.eval m = .map (some b) ∧ w.heap[b]? = some (.map es clock)) → o.wp P a w (Aft N H w0 g0 o K) Q := by
    intro es hf hz _ hmm
    cases hzz : (P.info? et).bind (·.zero) with
    | none => rw [hzz] at hz; exact hz.elim
    | some z =>
      rw [hzz] at hz
      have hzr : (zeroValue et).run P w = .ok z w := by
        cases hi : P.info? et with
        | none => rw [hi] at hzz; cases hzz
        | some i =>
          rw [hi] at hzz
          have : i.zero = some z := hzz
          simp [zeroValue, typeInfo, hi, this]
      refine aft_rep r hN hd ?_ (rep_lookRes (cst_rep w g z)) hz
      rcases hmm with ⟨hm1, rfl⟩ | ⟨b, clock, hm1, hb⟩
      · have hf' : (Instr.findKey kt kv (#[] : Array MapEntry).toList).run P w = .ok none w := MapKept.run_findKey hkd hf
        simp only [execOp, ho, Instr.lookup, Sem.run_bind, run_underlying hu, Result.andThen, hm1, Sem.run_pure, hkv, MapKept.run_checkKey hkd hkk, hf', hzr]
        try (cases ok <;> rfl)
      · have hf' : (Instr.findKey kt kv es.toList).run P w = .ok none w := MapKept.run_findKey hkd hf
        simp only [execOp, ho, Instr.lookup, Sem.run_bind, run_underlying hu, Result.andThen, hm1, MapKept.run_getObj_map hb, Sem.run_pure, hkv, MapKept.run_checkKey hkd hkk, hf', hzr]
        try (cases ok <;> rfl)
  unfold withMap at hK
  split at hK
  · rename_i he
    rw [he] at hm
    have hm1 : a.eval m = .map none := (rep_v hm).1
    exact miss #[] rfl (hK.2.2 rfl) (fun _ => trivial) (.inl ⟨hm1, rfl⟩)
  · rename_i id he
    rw [he] at hm
    split at hK
    · rename_i es clock hob
      obtain ⟨hks, hK1, hK2⟩ := hK
      obtain ⟨hid, -, en, hw, hsz, hen⟩ := map_obj r hob
      have hmv : a.eval m = .map (some (g.loc id)) := by
        have hm' : Rep w g (.mp id) (a.eval m) := hm
        generalize a.eval m = v at hm'
        cases hm'; rfl
      rcases find_both (w := w) (g := g) hkk es en.toList 0 (by simpa using hsz) (fun j u hu => by rw [Array.getElem?_toList]; exact hen j u hu) hks with ⟨p1, p2⟩ | ⟨j, u, q, p1, p2, p3, p4, p5, p6, p7⟩
      · exact miss en p1 (hK2 p2) (fun _ => trivial) (.inr ⟨_, clock, hmv, hw⟩)
      · obtain ⟨q', q1, q2, q3, q4, q5⟩ := hen j u p3
        rw [Array.getElem?_toList, q1] at p4
        cases p4
        refine aft_rep r hN hd ?_ (rep_lookRes q5) (hK1 u p2)
        have hf' : (Instr.findKey kt kv en.toList).run P w = .ok (some (0 + j, q.val)) w := MapKept.run_findKey hkd p1
        simp only [execOp, ho, Instr.lookup, Sem.run_bind, run_underlying hu, Result.andThen, hmv, MapKept.run_getObj_map hw, Sem.run_pure, hkv, MapKept.run_checkKey hkd hkk, hf']
        try (cases ok <;> rfl)
    · exact hK.elim
  · exact hK.elim

theorem withObj_spec {m : AV} {h : Heap} {KK : Nat → List Ent → Nat → Prop} (hK : withObj m h KK) : ∃ id es clock, m = .mp id ∧ h[id]? = some (.map es clock) ∧ KK id es clock := by
  unfold withObj at hK
  split at hK
  · rename_i id
    split at hK
    · rename_i es clock ho
      exact ⟨id, es, clock, rfl, ho, hK⟩
    · exact hK.elim
  · exact hK.elim

/-- The world with another object in a block. -/
abbrev setB (w : World) (b : Nat) (x : Obj) : World := { w with heap := w.heap.setIfInBounds b x }

theorem setB_other (w : World) (b : Nat) (x : Obj) (k : Nat) (hk : k ≠ b) : (setB w b x).heap[k]? = w.heap[k]? := by
  simp only [setB]; rw [Array.getElem?_setIfInBounds_ne (Ne.symm hk)]

theorem keeps_setB (b : Nat) (x : Obj) (h0 : g.pub b = 0) : Keeps w g (setB w b x) g :=
  ⟨fun _ => Nat.le_refl _, fun b' j v hj hv => by
    rw [World.cell?_of_block (a := ⟨b', j, none⟩) (setB_other w b x b' fun e => by subst e; omega)]; exact hv, Nat.le_refl _, fun _ _ => rfl⟩

theorem R.setMap (r : R H w0 g0 s h g a w) {id : Nat} {es es' : List Ent} {clock clock' : Nat} {en' : Array MapEntry} (ho : h[id]? = some (.map es clock)) (hsz : en'.size = es'.length)
    (hen : ∀ (j : Nat) (u : Ent), es'[j]? = some u → ∃ q, en'[j]? = some q ∧ q.key = u.key ∧ q.born = u.born ∧ plain u.key = true ∧ Rep w g u.val q.val) :
    R H w0 g0 s (h.set id (.map es' clock')) g a (setB w (g.loc id) (.map en' clock')) := by
  obtain ⟨hid, h0, en, hw, -, -⟩ := map_obj r ho
  have hlt := lt_of_heap hw
  have hk := keeps_setB (w := w) (g := g) (g.loc id) (.map en' clock') h0
  refine r.setObj ho hk (fun k hk => setB_other w _ _ k hk) (by simp [setB]) ⟨rfl, rfl, rfl⟩ ⟨h0, en', by simp [setB, hlt], hsz, fun j u hu => ?_⟩
  obtain ⟨q, q1, q2, q3, q4, q5⟩ := hen j u hu
  exact ⟨q, q1, q2, q3, q4, q5.keep hk⟩

theorem plain_key {d : TypeDesc} {k : Value} (hk : MapKept.IsKey d k) : plain k = true := by
  cases d <;> cases k <;> simp_all [MapKept.IsKey, plain]

theorem mput_miss {k : Value} {v : AV} {clock : Nat} : ∀ {es : List Ent}, mget k es = none → mput k v clock es = es ++ [⟨k, v, clock⟩]
  | [], _ => rfl
  | e :: es, h => by
    simp only [mget, List.find?_cons] at h
    split at h
    · cases h
    · rename_i hne
      simp only [mput, hne, List.cons_append]
      rw [mput_miss (es := es) h]; rfl

theorem mput_hit {k : Value} {v : AV} {clock : Nat} : ∀ {es : List Ent} {j : Nat} {u : Ent}, es[j]? = some u → keyEq k u.key = true → (∀ e ∈ es.take j, keyEq k e.key = false) →
    mput k v clock es = es.set j ⟨k, v, u.born⟩
  | [], j, u, h, _, _ => by simp at h
  | e :: es, 0, u, h, hk, _ => by
    simp only [List.getElem?_cons_zero, Option.some.injEq] at h
    subst h
    simp [mput, hk]
  | e :: es, j + 1, u, h, hk, hp => by
    have he := hp e (by simp)
    simp only [mput, he, List.set_cons_succ]
    rw [mput_hit (es := es) (j := j) (u := u) (by simpa using h) hk (fun x hx => hp x (by simp [hx]))]; rfl

theorem mdel_miss {k : Value} : ∀ {es : List Ent}, mget k es = none → mdel k es = es
  | [], _ => rfl
  | e :: es, h => by
    simp only [mget, List.find?_cons] at h
    split at h
    · cases h
    · rename_i hne
      simp only [mdel, hne]
      rw [mdel_miss (es := es) h]; rfl

theorem mdel_hit {k : Value} : ∀ {es : List Ent} {j : Nat} {u : Ent}, es[j]? = some u → keyEq k u.key = true → (∀ e ∈ es.take j, keyEq k e.key = false) → mdel k es = es.eraseIdx j
  | [], j, u, h, _, _ => by simp at h
  | e :: es, 0, u, h, hk, _ => by
    simp only [List.getElem?_cons_zero, Option.some.injEq] at h
    subst h
    simp [mdel, hk]
  | e :: es, j + 1, u, h, hk, hp => by
    have he := hp e (by simp)
    simp only [mdel, he, List.eraseIdx_cons_succ]
    rw [mdel_hit (es := es) (j := j) (u := u) (by simpa using h) hk (fun x hx => hp x (by simp [hx]))]; rfl

theorem sound_update {N : Nat} {t : TypeId} {m k x : Operand} (ho : o.op = .mapUpdate t m k x ∨ o.op = .insert t m k x) (r : R H w0 g0 s h g a w) (hN : a.tmps.size = N) (hd : ∀ d, o.dst = some d → d < N)
    (hK : awpUpdate P t (ev s m) (ev s k) (frz s x).1 h fun h' => K .any (frz s x).2 h') : o.wp P a w (Aft N H w0 g0 o K) Q := by
  obtain ⟨kt, et, d, kv, hu, hkd, hek, hkk, hK⟩ := withKey_spec hK
  obtain ⟨id, es, clock, hem, hob, hks, hK⟩ := withObj_spec hK
  have hk := r.eval k
  rw [hek] at hk
  have hkv : a.eval k = kv := (rep_v hk).1
  have hm := r.eval m
  rw [hem] at hm
  obtain ⟨g1, r1, k1, p1, n1⟩ := r.frz x
  obtain ⟨hid, h0, en, hw, hsz, hen⟩ := map_obj r1 hob
  have hmv : a.eval m = .map (some (g1.loc id)) := by
    have hm' : Rep w g1 (.mp id) (a.eval m) := Rep.keep k1 hm
    generalize a.eval m = v at hm'
    cases hm'; rfl
  have fin : ∀ (en' : Array MapEntry) (clock' : Nat) (es' : List Ent), (∀ (j : Nat) (u : Ent), es'[j]? = some u → ∃ q, en'[j]? = some q ∧ q.key = u.key ∧ q.born = u.born ∧ plain u.key = true ∧ Rep w g1 u.val q.val) → en'.size = es'.length →
      (Instr.mapUpdate t (.map (some (g1.loc id))) kv (a.eval x)).run P w = .ok () (setB w (g1.loc id) (.map en' clock')) → es' = mput kv (frz s x).1 clock es → clock' = mclk kv es clock → o.wp P a w (Aft N H w0 g0 o K) Q := by
    intro en' clock' es' h1 h2 h3 h4 h5
    subst h4; subst h5
    unfold Oper.wp
    have hrun : (execOp a.eval o).run P w = .ok .skip (setB w (g1.loc id) (.map en' (mclk kv es clock))) := by
      rcases ho with ho | ho <;> simp only [execOp, ho, Sem.run_bind, hmv, hkv, h3, Result.andThen_ok] <;> rfl
    rw [hrun]
    have r2 := r1.setMap (clock' := mclk kv es clock) hob h2 h1
    simp only [Oper.upon]
    refine ⟨.any, _, _, g1, hK, ?_, by rw [size_put]; exact hN⟩
    cases ho' : o.dst with
    | none => exact r2
    | some d => exact r2.put_rep (by rw [hN]; exact hd d ho') (.any _)
  rcases find_both (w := w) (g := g1) hkk es en.toList 0 (by simpa using hsz) (fun j u hu => by rw [Array.getElem?_toList]; exact hen j u hu) hks with ⟨q1, q2⟩ | ⟨j, u, q, q1, q2, q3, q4, q5, q6, q7⟩
  · refine fin (en.push { key := kv, val := a.eval x, born := clock }) (clock + 1) (es ++ [⟨kv, (frz s x).1, clock⟩]) (fun j u hu => ?_) (by simp [hsz]) ?_ (mput_miss q2).symm (by simp [mclk, q2])
    · rcases Nat.lt_or_ge j es.length with hj | hj
      · rw [List.getElem?_append_left hj] at hu
        obtain ⟨q, e1, e2⟩ := hen j u hu
        refine ⟨q, ?_, e2⟩
        rw [Array.getElem?_push_lt (by omega)]
        rw [Array.getElem?_eq_getElem (by omega)] at e1
        exact e1
      · rw [List.getElem?_append_right hj] at hu
        have hj0 : j = es.length := by
          rcases Nat.lt_or_ge j (es.length + 1) with h | h
          · omega
          · rw [List.getElem?_eq_none (by simp; omega)] at hu; cases hu
        subst hj0
        simp only [Nat.sub_self, List.getElem?_cons_zero, Option.some.injEq] at hu
        subst hu
        exact ⟨{ key := kv, val := a.eval x, born := clock }, by rw [← hsz]; simp, rfl, rfl, plain_key hkk, p1⟩
    · have hf' : (Instr.findKey kt kv en.toList).run P w = .ok none w := MapKept.run_findKey hkd q1
      simp only [Instr.mapUpdate, Sem.run_bind, run_underlying hu, Result.andThen, MapKept.run_getObj_map hw, MapKept.run_checkKey hkd hkk, hf', MapKept.run_setObj_map _ hw]
  · have hju : j < es.length := by
      rcases Nat.lt_or_ge j es.length with h | h
      · exact h
      · rw [List.getElem?_eq_none h] at q3; cases q3
    have hkq : keyEq kv u.key = true := (keyEq_iff hkk (hks _ (List.mem_of_getElem? q3))).2 q5
    obtain ⟨q', e1, e2, e3, e4, e5⟩ := hen j u q3
    have hqe : q = q' := by rw [Array.getElem?_toList, e1] at q4; cases q4; rfl
    subst hqe
    refine fin (en.modify j fun e => { e with key := kv, val := a.eval x }) clock (es.set j ⟨kv, (frz s x).1, u.born⟩) (fun i v hv => ?_) (by simp [hsz]) ?_ (mput_hit q3 hkq q7).symm (by simp [mclk, q2])
    · rw [List.getElem?_set] at hv
      split at hv
      · rename_i hij
        subst hij
        simp only [hju, if_true, Option.some.injEq] at hv
        subst hv
        refine ⟨{ q with key := kv, val := a.eval x }, ?_, rfl, e3, plain_key hkk, p1⟩
        rw [Array.getElem?_modify, if_pos rfl, e1]; rfl
      · rename_i hij
        obtain ⟨y, y1, y2⟩ := hen i v hv
        refine ⟨y, ?_, y2⟩
        rw [Array.getElem?_modify, if_neg hij]; exact y1
    · have hf' : (Instr.findKey kt kv en.toList).run P w = .ok (some (j, q.val)) w := MapKept.run_findKey hkd (by rw [q1]; simp)
      have hkey : ((en[j]?.map (·.key)).getD kv) = kv := by rw [e1]; simp [q6]
      simp only [Instr.mapUpdate, Sem.run_bind, run_underlying hu, Result.andThen, MapKept.run_getObj_map hw, MapKept.run_checkKey hkd hkk, hf', hkey, MapKept.run_keyThatStays hkk, MapKept.run_setObj_map _ hw]

theorem eval_mp (r : R H w0 g0 s h g a w) {m : Operand} {id : Nat} (he : ev s m = .mp id) : a.eval m = .map (some (g.loc id)) := by
  have hm := r.eval m
  rw [he] at hm
  have hm' : Rep w g (.mp id) (a.eval m) := hm
  generalize a.eval m = v at hm'
  cases hm'; rfl

theorem sound_delete {N : Nat} {ts : Array TypeId} {os : Array Operand} {m k : Operand} {t : TypeId} {tl : List TypeId} (ho : o.op = .call { callee := .builtin .delete, args := os, argTypes := ts }) (hos : os.toList = [m, k]) (hts : ts.toList = t :: tl)
    (r : R H w0 g0 s h g a w) (hN : a.tmps.size = N) (hd : ∀ d, o.dst = some d → d < N)
    (hK : awpDelete P t (ev s m) (ev s k) h fun h' => K (.tup []) s h') : o.wp P a w (Aft N H w0 g0 o K) Q := by
  obtain ⟨kt, et, d, kv, hu, hkd, hek, hkk, hK⟩ := withKey_spec hK
  obtain ⟨id, es, clock, hem, hob, hks, hK⟩ := withObj_spec hK
  have hk := r.eval k
  rw [hek] at hk
  have hkv : a.eval k = kv := (rep_v hk).1
  have hmv := eval_mp r hem
  obtain ⟨hid, h0, en, hw, hsz, hen⟩ := map_obj r hob
  have hA : os.map a.eval = #[a.eval m, a.eval k] := by
    apply Array.ext'; simp [hos]
  have hT' : ts[0]? = some t := by rw [← Array.getElem?_toList, hts]; rfl
  have fin : ∀ (en' : Array MapEntry) (es' : List Ent), (∀ (j : Nat) (u : Ent), es'[j]? = some u → ∃ q, en'[j]? = some q ∧ q.key = u.key ∧ q.born = u.born ∧ plain u.key = true ∧ Rep w g u.val q.val) → en'.size = es'.length →
      (Builtin.delete_ ts o.type #[a.eval m, a.eval k]).run P w = .ok (.tuple #[]) (setB w (g.loc id) (.map en' clock)) → es' = mdel kv es → o.wp P a w (Aft N H w0 g0 o K) Q := by
    intro en' es' h1 h2 h3 h4
    subst h4
    have r2 := r.setMap (clock' := clock) hob h2 h1
    refine aft_world (x := .tup []) (v := .tuple #[]) r2 hN hd (by simp [execOp, ho, resolve, invoke, builtin, hA, h3]) (show Rep _ _ _ _ from .tup rfl fun j u hu => by simp at hu) (fun b hb => by cases hb) hK
  rcases find_both (w := w) (g := g) hkk es en.toList 0 (by simpa using hsz) (fun j u hu => by rw [Array.getElem?_toList]; exact hen j u hu) hks with ⟨q1, q2⟩ | ⟨j, u, q, q1, q2, q3, q4, q5, q6, q7⟩
  · refine fin en es hen hsz ?_ (mdel_miss q2).symm
    have hf' : (Instr.findKey kt kv en.toList).run P w = .ok none w := MapKept.run_findKey hkd q1
    simp [Builtin.delete_, hT', hmv, hkv, run_underlying hu, MapKept.run_getObj_map hw, MapKept.run_checkKey hkd hkk, hf', MapKept.run_setObj_map _ hw, Result.andThen]
  · have hju : j < es.length := by
      rcases Nat.lt_or_ge j es.length with h | h
      · exact h
      · rw [List.getElem?_eq_none h] at q3; cases q3
    have hkq : keyEq kv u.key = true := (keyEq_iff hkk (hks _ (List.mem_of_getElem? q3))).2 q5
    have he : en.eraseIdxIfInBounds j = en.eraseIdx j (by omega) := by
      simp [Array.eraseIdxIfInBounds, show j < en.size by omega]
    refine fin (en.eraseIdxIfInBounds j) (es.eraseIdx j) (fun i v hv => ?_) ?_ ?_ (mdel_hit q3 hkq q7).symm
    · rw [he]
      rw [List.getElem?_eraseIdx] at hv
      simp only [Array.getElem?_eraseIdx]
      split at hv
      · rename_i hlt; rw [if_pos hlt]; exact hen i v hv
      · rename_i hlt; rw [if_neg hlt]; exact hen (i + 1) v hv
    · rw [he]; simp [hsz, List.length_eraseIdx, hju]
    · have hf' : (Instr.findKey kt kv en.toList).run P w = .ok (some (j, q.val)) w := MapKept.run_findKey hkd (by rw [q1]; simp)
      simp [Builtin.delete_, hT', hmv, hkv, run_underlying hu, MapKept.run_getObj_map hw, MapKept.run_checkKey hkd hkk, hf', MapKept.run_setObj_map _ hw, Result.andThen]

theorem mapT_spec {t : TypeId} (h : mapT P t = true) : ∃ k e, P.underlying t = some (.map k e) := by
  unfold mapT at h
  split at h
  · exact ⟨_, _, by assumption⟩
  · cases h

theorem sound_clear {N : Nat} {ts : Array TypeId} {os : Array Operand} {m : Operand} {t : TypeId} (ho : o.op = .call { callee := .builtin .clear, args := os, argTypes := ts }) (hos : os.toList = [m]) (hts : ts.toList = [t])
    (r : R H w0 g0 s h g a w) (hN : a.tmps.size = N) (hd : ∀ d, o.dst = some d → d < N)
    (hK : awpClear P t (ev s m) h fun h' => K (.tup []) s h') : o.wp P a w (Aft N H w0 g0 o K) Q := by
  obtain ⟨hmt, hK⟩ := hK
  obtain ⟨kt, et, hu⟩ := mapT_spec hmt
  obtain ⟨id, es, clock, hem, hob, hK⟩ := withObj_spec hK
  have hmv := eval_mp r hem
  obtain ⟨hid, h0, en, hw, hsz, hen⟩ := map_obj r hob
  have hA : os.map a.eval = #[a.eval m] := by
    apply Array.ext'; simp [hos]
  have hT' : ts[0]? = some t := by rw [← Array.getElem?_toList, hts]; rfl
  have r2 := r.setMap (es' := []) (en' := #[]) (clock' := clock) hob rfl (fun j u hu => by simp at hu)
  refine aft_world (x := .tup []) (v := .tuple #[]) r2 hN hd ?_ (show Rep _ _ _ _ from .tup rfl fun j u hu => by simp at hu) (fun b hb => by cases hb) hK
  simp [execOp, ho, resolve, invoke, builtin, hA, Builtin.clear_, hT', hmv, run_underlying hu, MapKept.run_getObj_map hw, MapKept.run_setObj_map _ hw, Result.andThen]

theorem run_zeroOf {e : TypeId} {z : Value} (hz : (P.info? e).bind (·.zero) = some z) : (zeroValue e).run P w = .ok z w := by
  cases hi : P.info? e with
  | none => rw [hi] at hz; cases hz
  | some i =>
    rw [hi] at hz
    have : i.zero = some z := hz
    simp [zeroValue, typeInfo, hi, this]

theorem plain_cells {z : Value} (h : plain z = true ∨ ∃ zs, z = .agg zs ∧ zs.all plain = true) : ∀ j, j < z.cells.size → (z.cells[j]!).oneCell' = true := by
  intro j hj
  rcases h with h | ⟨zs, rfl, h⟩
  · have hc : z.cells = #[z] := by cases z <;> first | rfl | simp [plain] at h
    rw [hc] at hj ⊢
    have : j = 0 := by simpa using hj
    subst this
    exact plain_oneCell h
  · have hj' : j < zs.size := hj
    have := Array.all_eq_true.1 h j hj'
    simp only [Value.cells]
    rw [getElem!_pos zs j hj']
    exact plain_oneCell this

theorem sound_clearX {N : Nat} {ts : Array TypeId} {os : Array Operand} {m : Operand} {t : TypeId} (ho : o.op = .call { callee := .builtin .clear, args := os, argTypes := ts }) (hos : os.toList = [m]) (hts : ts.toList = [t])
    (r : R H w0 g0 s h g a w) (hN : a.tmps.size = N) (hd : ∀ d, o.dst = some d → d < N)
    (hK : awpClearX P t (ev s m) h fun h' => K (.tup []) s h') : o.wp P a w (Aft N H w0 g0 o K) Q := by
  have hA : os.map a.eval = #[a.eval m] := by
    apply Array.ext'; simp [hos]
  have hT' : ts[0]? = some t := by rw [← Array.getElem?_toList, hts]; rfl
  have hev := r.eval m
  unfold awpClearX at hK
  split at hK
  · rename_i id off n c hm
    rw [hm] at hev
    have hev' : Rep w g (.osl id off n c) (a.eval m) := hev
    unfold awpClearS at hK
    split at hK
    · rename_i e hu
      split at hK
      · rename_i z e' mm cs hz hob
        obtain ⟨hp, hfit, hK⟩ := hK
        generalize hv : a.eval m = v at hev'
        cases hev' with
        | osl _ _ _ _ hid hc hcm =>
        by_cases hn : n = 0
        · subst hn
          have e1 : h.set id (.row e' mm (putCells cs off (List.replicate (0 * z.cells.size) .any))) = h := by
            have : putCells cs off (List.replicate (0 * z.cells.size) .any) = cs := by simp [putCells]
            rw [this]
            have hlt : id < h.length := by rw [r.heap.n]; exact hid
            rw [List.getElem?_eq_getElem hlt] at hob
            have hob' : h[id] = .row e' mm cs := Option.some.inj hob
            rw [← hob']; exact List.set_getElem_self hlt
          rw [e1] at hK
          refine aft_world (x := .tup []) (v := .tuple #[]) r hN hd ?_ (show Rep _ _ _ _ from .tup rfl fun j u hu => by simp at hu) (fun b hb => by cases hb) hK
          simp [execOp, ho, resolve, invoke, builtin, hA, Builtin.clear_, hT', hv, run_underlying hu, Result.andThen]
        · have hrow : RowE w g e' mm cs (g.loc id) := r.heap.obj id _ hob
          have hzl : (Builtin.zeroCells z.cells n).toList.length = n * z.cells.size := by simp [Builtin.zeroCells]
          obtain ⟨cur', c1, c2, c3⟩ := row_putE (P := P) (b := g.loc id) (off := off) (xs := List.replicate (n * z.cells.size) .any) (us := (Builtin.zeroCells z.cells n).toList) hrow (by rw [hzl]; simp)
            (fun u hu => by
              simp only [Builtin.zeroCells, Array.toList_map, List.mem_map] at hu
              obtain ⟨j, hj, rfl⟩ := hu
              have hj' : j < n * z.cells.size := by simpa using hj
              have hs : 0 < z.cells.size := by
                rcases Nat.eq_zero_or_pos z.cells.size with h0 | h0
                · rw [h0] at hj'; omega
                · exact h0
              exact plain_cells hp _ (Nat.mod_lt _ hs))
            (fun j u hu => by
              have := List.mem_of_getElem? hu
              rw [List.mem_replicate] at this
              rw [this.2]; exact .any _) (by simpa using hfit)
          have r2 := r.setObj hob c3 (fun k hk => setRow_other w _ k cur' hk) (by simp [World.setRow]) ⟨rfl, rfl, rfl⟩ (show ObjRep _ _ (.row _ _ _) _ from c2)
          refine aft_world (x := .tup []) (v := .tuple #[]) r2 hN hd ?_ (show Rep _ _ _ _ from .tup rfl fun j u hu => by simp at hu) (fun b hb => by cases hb) hK
          obtain ⟨n', rfl⟩ : ∃ n', n = n' + 1 := ⟨n - 1, by omega⟩
          simp [execOp, ho, resolve, invoke, builtin, hA, Builtin.clear_, hT', hv, run_underlying hu, run_zeroOf hz, c1, Result.andThen]
      · exact hK.elim
    · exact hK.elim
  · rename_i sz hm
    rw [hm] at hev
    have hev' : Rep w g (.sl sz []) (a.eval m) := hev
    obtain ⟨⟨e, hu⟩, hK⟩ := hK
    refine aft_world (x := .tup []) (v := .tuple #[]) r hN hd ?_ (show Rep _ _ _ _ from .tup rfl fun j u hu => by simp at hu) (fun b hb => by cases hb) hK
    generalize hv : a.eval m = v at hev'
    generalize hxs : ([] : List AV) = xs at hev'
    cases hev' with
    | nil => simp [execOp, ho, resolve, invoke, builtin, hA, Builtin.clear_, hT', hv, run_underlying hu, Result.andThen]
    | empty => simp [execOp, ho, resolve, invoke, builtin, hA, Builtin.clear_, hT', hv, run_underlying hu, Result.andThen]
    | sl => subst hxs; simp [execOp, ho, resolve, invoke, builtin, hA, Builtin.clear_, hT', hv, run_underlying hu, Result.andThen]
  · exact sound_clear ho hos hts r hN hd hK

theorem sound_range {N : Nat} {t : TypeId} {m : Operand} (ho : o.op = .range t m) (r : R H w0 g0 s h g a w) (hN : a.tmps.size = N) (hd : ∀ d, o.dst = some d → d < N)
    (hK : awpRange P t (ev s m) h fun v => K v s h) : o.wp P a w (Aft N H w0 g0 o K) Q := by
  obtain ⟨hmt, hK⟩ := hK
  obtain ⟨kt, et, hu⟩ := mapT_spec hmt
  obtain ⟨id, es, clock, hem, hob, hK⟩ := withObj_spec hK
  have hmv := eval_mp r hem
  obtain ⟨hid, h0, en, hw, hsz, hen⟩ := map_obj r hob
  have r2 := r.alloc (.mapIter (some (g.loc id)) clock #[] clock)
  have hnew := r.sep_new
  refine aft_world (x := .iter id clock [] clock) r2 hN hd (v := .pointer (some ⟨w.heap.size, 0, none⟩)) ?_ ⟨w.heap.size, rfl, r.frame.size, heap_alloc_new w _, r.fresh _ (Nat.le_refl _), hid, Nat.le_refl _⟩ (fun b hb => ?_) hK
  · simp only [execOp, ho, Instr.range, Sem.run_bind, run_underlying hu, hmv, Result.andThen_ok, MapKept.run_getObj_map hw, Sem.run_pure, newObj]
    rfl
  · simp only [privB, Option.some.injEq] at hb
    subst hb
    exact hnew

/-- The iterator steps. -/
theorem R.setIter (r : R H w0 g0 s h g a w) {t b id since c0 c1 : Nat} {seen seen' : List Nat} (hs : s t = .iter id since seen c0) (hv : tmOf a t = .pointer (some ⟨b, 0, none⟩)) (hc : since ≤ c1) :
    R H w0 g0 (Vm.set s t (.iter id since seen' c1)) h g a (setB w b (.mapIter (some (g.loc id)) since seen'.toArray c1)) := by
  have hsl := r.slots t
  rw [hs] at hsl
  obtain ⟨b', hb', hB, hw, h0, hid, -⟩ := hsl
  have hbb : b' = b := by
    have hv' : a.tmps.getD t undef = .pointer (some ⟨b, 0, none⟩) := hv
    rw [hv'] at hb'; simpa using hb'.symm
  subst hbb
  have hlt := lt_of_heap hw
  have hb : privB (s t) (tmOf a t) = some b' := by rw [hs, hv]; rfl
  have hk := keeps_setB (w := w) (g := g) b' (.mapIter (some (g.loc id)) since seen'.toArray c1) h0
  have hpr : ∀ i, privB (Vm.set s t (.iter id since seen' c1) i) (tmOf a i) = privB (s i) (tmOf a i) := fun i => by
    unfold Vm.set
    split
    · rename_i e; subst e; rw [hs, hv]; rfl
    · rfl
  have hoth : ∀ i b2, i ≠ t → privB (s i) (tmOf a i) = some b2 → b2 ≠ b' := fun i b2 hi hb2 e => hi (r.apart i t b2 hb2 (e ▸ hb))
  have hsz : (setB w b' (.mapIter (some (g.loc id)) since seen'.toArray c1)).heap.size = w.heap.size := by simp [setB]
  refine ⟨r.defers, fun i => ?_, fun i j b2 hi hj => r.apart i j b2 ((hpr i).symm.trans hi) ((hpr j).symm.trans hj), fun i b2 hi => r.sep i b2 ((hpr i).symm.trans hi), ?_, ?_, r.n0, r.loc0, r.old, r.loc1, fun b2 hb2 => r.fresh b2 (by rw [hsz] at hb2; exact hb2), fun i cs hi => (r.laid i cs hi).keep hk, r.kept.trans hk⟩
  · by_cases hi : i = t
    · subst hi
      simp only [Vm.set, if_true]
      exact ⟨b', hv, hB, by simp [setB, hlt], h0, hid, hc⟩
    · simp only [Vm.set, hi, if_false]
      exact (r.slots i).keepAt hk fun b2 hb2 => ⟨setB_other w b' _ b2 (hoth i b2 hi hb2), rfl⟩
  · exact ⟨r.heap.n, fun i hi => by rw [hsz]; exact r.heap.lt i hi, r.heap.inj, fun i o' ho => (r.heap.obj i o' ho).keepAt hk ⟨setB_other w b' _ _ (r.sep t b' hb i (heap_lt r ho)), rfl⟩⟩
  · exact ⟨r.frame.os, r.frame.tape, r.frame.output, by rw [hsz]; exact r.frame.size, fun k' hk' hno => by rw [setB_other w b' _ k' (by omega)]; exact r.frame.block k' hk' hno⟩

theorem leftE_mem {es : List Ent} {en : Array MapEntry} {seen : List Nat} (hsz : en.size = es.length)
    (hen : ∀ (j : Nat) (u : Ent), es[j]? = some u → ∃ q, en[j]? = some q ∧ q.key = u.key ∧ q.born = u.born ∧ plain u.key = true ∧ Rep w g u.val q.val) {q : MapEntry} (hq : q ∈ (leftOf en seen.toArray).toList) :
    ∃ u ∈ leftE es seen, q.key = u.key ∧ q.born = u.born ∧ plain u.key = true ∧ Rep w g u.val q.val := by
  simp only [leftOf, Array.toList_filter, List.mem_filter] at hq
  obtain ⟨hq1, hq2⟩ := hq
  obtain ⟨j, hj⟩ := List.mem_iff_getElem?.1 hq1
  have hjlt : j < es.length := by
    rcases Nat.lt_or_ge j en.size with h' | h'
    · omega
    · rw [List.getElem?_eq_none (by simpa using h')] at hj; cases hj
  obtain ⟨q', q1, q2, q3, q4, q5⟩ := hen j _ (List.getElem?_eq_getElem hjlt)
  rw [Array.getElem?_toList, q1] at hj
  cases hj
  refine ⟨es[j], ?_, q2, q3, q4, q5⟩
  simp only [leftE, List.mem_filter]
  refine ⟨List.getElem_mem hjlt, ?_⟩
  rw [← q3]
  simpa using hq2

theorem leftE_none {es : List Ent} {en : Array MapEntry} {seen : List Nat} (hsz : en.size = es.length)
    (hen : ∀ (j : Nat) (u : Ent), es[j]? = some u → ∃ q, en[j]? = some q ∧ q.key = u.key ∧ q.born = u.born ∧ plain u.key = true ∧ Rep w g u.val q.val) (h0 : (leftOf en seen.toArray).size = 0) : leftE es seen = [] := by
  rw [leftE, List.filter_eq_nil_iff]
  intro u hu hc
  obtain ⟨j, hj⟩ := List.mem_iff_getElem?.1 hu
  obtain ⟨q', q1, q2, q3, q4, q5⟩ := hen j u hj
  have : q' ∈ (leftOf en seen.toArray).toList := by
    simp only [leftOf, Array.toList_filter, List.mem_filter]
    refine ⟨?_, by rw [q3]; simpa using hc⟩
    rw [Array.mem_toList_iff]; exact Array.mem_of_getElem? q1
  have hl : (leftOf en seen.toArray).toList.length = 0 := by simpa using h0
  rw [List.eq_nil_of_length_eq_zero hl] at this
  cases this

theorem sound_next {N : Nat} {it : Operand} (ho : o.op = .next it false) (r : R H w0 g0 s h g a w) (hN : a.tmps.size = N) (hd : ∀ d, o.dst = some d → d < N)
    (hK : awpNext (ev s it) s (tmpOf it) h fun v s' => K v s' h) : o.wp P a w (Aft N H w0 g0 o K) Q := by
  have hit := r.eval it
  have hpt := r.slots (tmpOf it)
  unfold awpNext at hK
  split at hK
  · rename_i id since seen c0 he
    have hst : s (tmpOf it) = .iter id since seen c0 ∧ a.eval it = tmOf a (tmpOf it) := by
      cases it with
      | tmp t => exact ⟨he, rfl⟩
      | const v => have := shared_cst v; simp only [ev] at he; rw [he] at this; cases this
      | global n =>
        simp only [ev] at he
        split at he <;> cases he
      | func f => simp only [ev] at he; cases he
    split at hK
    · rename_i es clock hob
      obtain ⟨⟨hnew, hclk⟩, hK0, hK1⟩ := hK
      rw [he] at hit
      obtain ⟨b, hv, hB, hw, h0, hid, hsc⟩ := hit
      obtain ⟨-, hp0, en, hm, hsz, hen⟩ := map_obj r hob
      have hold : ∀ x ∈ en.toList, x.born < since := fun x hx => by
        obtain ⟨j, hj⟩ := List.mem_iff_getElem?.1 hx
        have hjlt : j < es.length := by
          rcases Nat.lt_or_ge j en.size with h' | h'
          · omega
          · rw [List.getElem?_eq_none (by simpa using h')] at hj; cases hj
        obtain ⟨q, q1, q2, q3, -⟩ := hen j _ (List.getElem?_eq_getElem hjlt)
        rw [Array.getElem?_toList, q1] at hj
        cases hj
        rw [q3]; exact hnew _ (List.getElem_mem hjlt)
      rcases run_next_at (P := P) w o.type b (g.loc id) since c0 seen.toArray en clock hw hm hold hsc with ⟨e0, hrun⟩ | ⟨q, hq, w1, hw1, hrun⟩
      · refine aft_rep r hN hd (by simp only [execOp, ho, hv, Sem.run_bind, hrun, Result.andThen_ok]; rfl) (.tup rfl fun j u hu => ?_) (hK0 (leftE_none hsz hen e0))
        match j with
        | 0 => simp at hu; subst hu; exact .v rfl
        | j + 1 => simp at hu
      · obtain ⟨u, hu, u1, u2, u3, u4⟩ := leftE_mem hsz hen hq
        have hv' : tmOf a (tmpOf it) = .pointer (some ⟨b, 0, none⟩) := by rw [← hst.2]; exact hv
        have fin : ∀ w1 : World, R H w0 g0 s h g a w1 → Rep w1 g u.val q.val → (execOp a.eval o).run P w = .ok (.value (.tuple #[.bool true, q.key, q.val])) (setB w1 b (.mapIter (some (g.loc id)) since (seen ++ [u.born]).toArray clock)) → o.wp P a w (Aft N H w0 g0 o K) Q := by
          intro w1 r1 hr1 hrun
          have r2 := r1.setIter (seen' := seen ++ [u.born]) (c1 := clock) hst.1 hv' hclk
          refine aft_world (x := .tup [.v (.bool true), .v u.key, u.val]) r2 hN hd hrun (show Rep _ _ _ _ from .tup rfl fun j y hy => ?_) (fun b hb => by cases hb) (hK1 u hu)
          match j with
          | 0 => simp at hy; subst hy; exact .v rfl
          | 1 => simp at hy; subst hy; rw [show (#[Value.bool true, q.key, q.val].getD 1 undef) = q.key from rfl, u1]; exact .v u3
          | 2 => simp at hy; subst hy; exact hr1.keep (keeps_setB (g := g) b _ h0)
          | j + 3 => simp at hy
        have hseen : (seen ++ [u.born]).toArray = seen.toArray.push q.born := by rw [u2]; simp
        rcases hw1 with rfl | rfl
        · refine fin w1 r u4 ?_
          simp only [execOp, ho, hv, Sem.run_bind, hrun, Result.andThen_ok, hseen]; rfl
        · refine fin w.drew r.drew (u4.keep (keeps_drew w g)) ?_
          simp only [execOp, ho, hv, Sem.run_bind, hrun, Result.andThen_ok, hseen]; rfl
    · exact hK.elim
  · exact hK.elim

theorem find_index {es : List Ent} {en : List MapEntry} (b : Nat) : en.length = es.length →
    (∀ (j : Nat) (u : Ent), es[j]? = some u → ∃ q, en[j]? = some q ∧ q.key = u.key ∧ q.born = u.born ∧ plain u.key = true ∧ Rep w g u.val q.val) → ∀ {e : Ent}, es.find? (fun e => e.born == b) = some e →
    ∃ q, en.find? (fun e => e.born == b) = some q ∧ q.key = e.key ∧ plain e.key = true ∧ Rep w g e.val q.val := by
  induction es generalizing en with
  | nil => intro _ _ e he; cases he
  | cons e0 es ih =>
    intro hl hen e he
    cases en with
    | nil => simp at hl
    | cons q0 en =>
      obtain ⟨q, h1, h2, h3, h4, h5⟩ := hen 0 e0 rfl
      simp only [List.getElem?_cons_zero, Option.some.injEq] at h1
      subst h1
      simp only [List.find?_cons] at he ⊢
      rw [h3]
      split at he
      · rename_i hb
        simp only [Option.some.injEq] at he
        subst he
        exact ⟨q0, rfl, h2, h4, h5⟩
      · rename_i hb
        exact ih (by simpa using hl) (fun j u hu => hen (j + 1) u (by simpa using hu)) he

theorem sound_entry {N : Nat} {it : Operand} (ho : o.op = .entry it) (r : R H w0 g0 s h g a w) (hN : a.tmps.size = N) (hd : ∀ d, o.dst = some d → d < N)
    (hK : awpEntry (ev s it) h fun v => K v s h) : o.wp P a w (Aft N H w0 g0 o K) Q := by
  have hit := r.eval it
  unfold awpEntry at hK
  split at hK
  · rename_i id since seen c0 he
    split at hK
    · rename_i es clock b0 hob hlast
      obtain ⟨rfl, ⟨e, hf⟩, hK⟩ := hK
      rw [he] at hit
      obtain ⟨b, hv, hB, hw, h0, hid, hsc⟩ := hit
      obtain ⟨-, hp0, en, hm, hsz, hen⟩ := map_obj r hob
      obtain ⟨q, f1, f2, f3, f4⟩ := find_index (w := w) (g := g) b0 (by rw [Array.length_toList]; exact hsz) (fun j u hu => by rw [Array.getElem?_toList]; exact hen j u hu) hf
      have hfe : en.find? (fun x => x.born == b0) = some q := by rw [← Array.find?_toList]; exact f1
      have hback : seen.toArray.back? = some b0 := by rw [List.back?_toArray]; exact hlast
      refine aft_rep r hN hd (v := .tuple #[q.key, q.val]) ?_ (.tup rfl fun j y hy => ?_) (hK e hf)
      · have hrun : (Instr.entry (.pointer (some ⟨b, 0, none⟩))).run P w = .ok (.tuple #[q.key, q.val]) w := by
          simp only [Instr.entry, getObj, Sem.run_bind, Sem.run, hw, hm, Result.andThen, hback, bne_self_eq_false, Bool.false_eq_true, if_false, hfe]
          rfl
        simp only [execOp, ho, hv, Sem.run_bind, hrun, Result.andThen_ok]; rfl
      · match j with
        | 0 => simp at hy; subst hy; rw [show (#[q.key, q.val].getD 0 undef) = q.key from rfl, f2]; exact .v f3
        | 1 => simp at hy; subst hy; exact f4
        | j + 2 => simp at hy
    · exact hK.elim
  · exact hK.elim

/-! Structs that are written out -/

theorem fieldsAt_spec {t : TypeId} {places : List (Nat × Nat)} (hf : fieldsAt P t = some places) : ∃ fs, P.underlying t = some (.struct fs) ∧ fs.toList.mapM (fun f => (P.info? f.type).map fun i => (f.offset, i.size)) = some places := by
  unfold fieldsAt at hf
  split at hf
  · rename_i fs hu; exact ⟨fs, hu, hf⟩
  · cases hf

/-- What stands for cells. -/
def CellsRep (w : World) (g : Gh) (cs : List AV) (vs : Array Value) : Prop :=
  vs.size = cs.length ∧ (∀ j, j < vs.size → (vs.getD j undef).oneCell' = true) ∧ ∀ j u, cs[j]? = some u → Rep w g u (vs.getD j undef)

theorem putFold (news : Array Value) (off : Nat) : ∀ (cs : Array Value), off + news.size ≤ cs.size →
    (news.zipIdx.foldl (fun cs (c, j) => cs.setIfInBounds (off + j) c) cs).toList = cs.toList.take off ++ news.toList ++ cs.toList.drop (off + news.size) := by
  intro cs hl
  have key : ∀ (l : List Value) (k : Nat) (cs : Array Value), off + k + l.length ≤ cs.size →
      ((l.zipIdx k).foldl (fun cs (x : Value × Nat) => cs.setIfInBounds (off + x.2) x.1) cs).toList = cs.toList.take (off + k) ++ l ++ cs.toList.drop (off + k + l.length) := by
    intro l
    induction l with
    | nil => intro k cs _; simp
    | cons y l ih =>
      intro k cs hk
      simp only [List.length_cons] at hk
      simp only [List.zipIdx_cons, List.foldl_cons]
      rw [ih (k + 1) _ (by simp; omega)]
      have e1 : (cs.setIfInBounds (off + k) y).toList = cs.toList.take (off + k) ++ y :: cs.toList.drop (off + k + 1) := by
        rw [Array.toList_setIfInBounds, List.set_eq_take_append_cons_drop]
        rw [if_pos (by simp; omega)]
      rw [e1]
      have hlt : (cs.toList.take (off + k)).length = off + k := by simp; omega
      have hD : cs.toList.drop (off + k + 1 + l.length) = (cs.toList.drop (off + k + 1)).drop l.length := by rw [List.drop_drop]
      rw [List.length_cons, show off + k + (l.length + 1) = off + k + 1 + l.length by omega, hD]
      generalize cs.toList.take (off + k) = A at hlt
      generalize cs.toList.drop (off + k + 1) = D
      have h1 : (A ++ y :: D).take (off + (k + 1)) = A ++ [y] := by
        rw [List.take_append, hlt, List.take_of_length_le (by omega), show off + (k + 1) - (off + k) = 1 by omega]; simp
      have h2 : (A ++ y :: D).drop (off + (k + 1) + l.length) = D.drop l.length := by
        rw [List.drop_append, hlt, List.drop_eq_nil_of_le (by omega), show off + (k + 1) + l.length - (off + k) = l.length + 1 by omega]; simp
      rw [h1, h2]; simp
  have := key news.toList 0 cs (by simpa using hl)
  rw [← Array.foldl_toList, Array.toList_zipIdx]
  simpa using this

theorem fillA_rep {places : List (Nat × Nat)} : ∀ (ps : List (Nat × AV)) (vs : List Value) {cs cs' : List AV} {cv : Array Value}, ps.length = vs.length → (∀ j u, (ps.map (·.2))[j]? = some u → Rep w g u (vs.getD j undef)) →
    CellsRep w g cs cv → fillA places cs ps = some cs' → ∃ cv', Instr.fill (places.toArray[·]?) cv ((ps.map (·.1)).zip vs) = some cv' ∧ CellsRep w g cs' cv'
  | [], [], cs, cs', cv, _, _, hc, hf => by simp only [fillA, Option.some.injEq] at hf; subst hf; exact ⟨cv, rfl, hc⟩
  | [], _ :: _, _, _, _, h, _, _, _ => by simp at h
  | _ :: _, [], _, _, _, h, _, _, _ => by simp at h
  | (i, x) :: ps, v :: vs, cs, cs', cv, hl, hrep, hc, hf => by
    unfold fillA at hf
    split at hf
    · cases hf
    · rename_i off n hp
      split at hf
      · rename_i hcond
        simp only [Bool.and_eq_true, beq_iff_eq, decide_eq_true_eq] at hcond
        obtain ⟨⟨hs, hn⟩, hle⟩ := hcond
        have hx : Rep w g x v := by simpa using hrep 0 x rfl
        obtain ⟨q1, q2, q3⟩ := solid_rep hs hx
        have hsz : v.cells.size = n := by omega
        have hlc : (v.cells.zipIdx.foldl (fun cs (c, j) => cs.setIfInBounds (off + j) c) cv).toList = cv.toList.take off ++ v.cells.toList ++ cv.toList.drop (off + v.cells.size) := putFold _ _ _ (by rw [hc.1]; omega)
        have hc2 : CellsRep w g (cs.take off ++ x.cells ++ cs.drop (off + n)) (v.cells.zipIdx.foldl (fun cs (c, j) => cs.setIfInBounds (off + j) c) cv) := by
          have hget : ∀ j, (v.cells.zipIdx.foldl (fun cs (c, j) => cs.setIfInBounds (off + j) c) cv).getD j undef = (cv.toList.take off ++ v.cells.toList ++ cv.toList.drop (off + v.cells.size)).getD j undef := fun j => by
            rw [← hlc]; simp [Array.getD_eq_getD_getElem?, List.getD_eq_getElem?_getD]
          have hszl : (v.cells.zipIdx.foldl (fun cs (c, j) => cs.setIfInBounds (off + j) c) cv).size = cv.size := by
            rw [← Array.length_toList, hlc]; simp; have := hc.1; omega
          have hcl := hc.1
          refine ⟨?_, fun j hj => ?_, fun j u hu => ?_⟩
          · rw [hszl]; simp; omega
          · rw [hget]
            rw [hszl] at hj
            rcases Nat.lt_or_ge j off with h1 | h1
            · have := hc.2.1 j hj
              rw [List.getD_eq_getElem?_getD, List.append_assoc, List.getElem?_append_left (by simp; omega), List.getElem?_take, if_pos h1, Array.getElem?_toList]
              simpa [Array.getD_eq_getD_getElem?] using this
            · rcases Nat.lt_or_ge j (off + n) with h2 | h2
              · rw [List.getD_eq_getElem?_getD, List.append_assoc, List.getElem?_append_right (by simp; omega), List.getElem?_append_left (by simp; omega)]
                have hlt : j - min off cv.toList.length < v.cells.toList.length := by simp; omega
                simp only [List.length_take]
                rw [List.getElem?_eq_getElem hlt]
                exact q2 _ (List.getElem_mem hlt)
              · have := hc.2.1 j hj
                rw [List.getD_eq_getElem?_getD, List.getElem?_append_right (by simp; omega), List.getElem?_drop]
                have e : off + v.cells.size + (j - (cv.toList.take off ++ v.cells.toList).length) = j := by simp; omega
                rw [e, Array.getElem?_toList]
                simpa [Array.getD_eq_getD_getElem?] using this
          · rw [hget]
            rcases Nat.lt_or_ge j off with h1 | h1
            · rw [List.append_assoc, List.getElem?_append_left (by simp; omega), List.getElem?_take, if_pos h1] at hu
              have := hc.2.2 j u hu
              rw [List.getD_eq_getElem?_getD, List.append_assoc, List.getElem?_append_left (by simp; omega), List.getElem?_take, if_pos h1, Array.getElem?_toList]
              simpa [Array.getD_eq_getD_getElem?] using this
            · rcases Nat.lt_or_ge j (off + n) with h2 | h2
              · rw [List.append_assoc, List.getElem?_append_right (by simp; omega), List.getElem?_append_left (by simp; omega)] at hu
                have := q3 _ u hu
                rw [List.getD_eq_getElem?_getD, List.append_assoc, List.getElem?_append_right (by simp; omega), List.getElem?_append_left (by simp; omega)]
                have e : j - (List.take off cv.toList).length = j - (List.take off cs).length := by simp; omega
                rw [e]
                simpa [List.getD_eq_getElem?_getD] using this
              · rw [List.getElem?_append_right (by simp; omega), List.getElem?_drop] at hu
                have e0 : off + n + (j - (List.take off cs ++ x.cells).length) = j := by simp; omega
                rw [e0] at hu
                have := hc.2.2 j u hu
                rw [List.getD_eq_getElem?_getD, List.getElem?_append_right (by simp; omega), List.getElem?_drop]
                have e : off + v.cells.size + (j - (cv.toList.take off ++ v.cells.toList).length) = j := by simp; omega
                rw [e, Array.getElem?_toList]
                simpa [Array.getD_eq_getD_getElem?] using this
        obtain ⟨cv', f1, f2⟩ := fillA_rep ps vs (by simpa using hl) (fun j u hu => by simpa using hrep (j + 1) u (by simpa using hu)) hc2 hf
        refine ⟨cv', ?_, f2⟩
        simp only [List.map_cons, List.zip_cons_cons, Instr.fill]
        have hp' : places.toArray[i]? = some (off, n) := by simpa using hp
        simp only [hp']
        rw [if_neg (by rw [hc.1]; simp only [Bool.or_eq_true, bne_iff_ne, decide_eq_true_eq]; omega)]
        exact f1
      · cases hf

theorem sound_build {N : Nat} {t : TypeId} {parts : Array (Nat × Operand)} (ho : o.op = .build t parts) (r : R H w0 g0 s h g a w) (hN : a.tmps.size = N) (hd : ∀ d, o.dst = some d → d < N)
    (hK : awpBuild P t ((parts.toList.map (·.1)).zip (frzs s (parts.toList.map (·.2))).1) fun v => K v (frzs s (parts.toList.map (·.2))).2 h) : o.wp P a w (Aft N H w0 g0 o K) Q := by
  obtain ⟨g1, r1, k1, l1, n1, p1⟩ := R.frzs (parts.toList.map (·.2)) r
  unfold awpBuild at hK
  split at hK
  · rename_i places zs hfa hz
    obtain ⟨hpl, hK⟩ := hK
    split at hK
    · rename_i cs hfill
      obtain ⟨fs, hu, hm⟩ := fieldsAt_spec hfa
      have hinf : ∃ i, P.info? t = some i ∧ i.zero = some (.agg zs) := by
        cases hi : P.info? t with
        | none => rw [hi] at hz; cases hz
        | some i => rw [hi] at hz; exact ⟨i, rfl, hz⟩
      obtain ⟨i, hi, hiz⟩ := hinf
      have hp : ∀ j (hj : j < zs.size), plain zs[j] = true := fun j hj => Array.all_eq_true.1 hpl j hj
      have hc0 : CellsRep w g1 (zs.toList.map .v) zs := by
        refine ⟨by simp, fun j hj => ?_, fun j u hu => ?_⟩
        · simp only [Array.getD_eq_getD_getElem?, Array.getElem?_eq_getElem hj, Option.getD_some]
          exact plain_oneCell (hp j hj)
        · have hj : j < zs.size := by
            rcases Nat.lt_or_ge j zs.size with h | h
            · exact h
            · simp [Array.getElem?_eq_none h] at hu
          simp only [List.getElem?_map, Array.getElem?_toList, Array.getElem?_eq_getElem hj, Option.map_some, Option.some.injEq] at hu
          subst hu
          simp only [Array.getD_eq_getD_getElem?, Array.getElem?_eq_getElem hj, Option.getD_some]
          exact .v (hp j hj)
      have hlp : (frzs s (parts.toList.map (·.2))).1.length = (parts.toList.map (·.1)).length := by simpa using l1
      obtain ⟨cv, f1, f2⟩ := fillA_rep (w := w) (g := g1) ((parts.toList.map (·.1)).zip (frzs s (parts.toList.map (·.2))).1) ((parts.toList.map (·.2)).map a.eval) (by simp [l1])
        (fun j u hu => p1 j u (by rw [List.map_snd_zip (by omega)] at hu; exact hu)) hc0 hfill
      rw [List.map_fst_zip (by omega)] at f1
      have hpe : (parts.map fun (p : Nat × Operand) => (p.1, a.eval p.2)).toList = (parts.toList.map (·.1)).zip ((parts.toList.map (·.2)).map a.eval) := by
        rw [Array.toList_map, List.map_map, List.zip_map', ]; rfl
      have hbuilt : P.built t (parts.map fun (p : Nat × Operand) => (p.1, a.eval p.2)).toList = some cv := by
        unfold Program.built
        simp only [hi, hu, hiz, hm, hpe]
        exact f1
      refine aft_rep r1 hN hd (v := .agg cv) ?_ (.agg f2.1 f2.2.1 f2.2.2) hK
      simp only [execOp, ho, Sem.run_bind, run_build w t _ cv hbuilt, Result.andThen_ok]
      rfl
    · exact hK.elim
  · exact hK.elim

end
end Go.Vm
