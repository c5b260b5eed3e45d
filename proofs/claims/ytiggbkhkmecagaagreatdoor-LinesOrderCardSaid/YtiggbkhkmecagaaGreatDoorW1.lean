/- What the functions of the program do: their contracts. -/
import Derived.Test.YtiggbkhkmecagaaGreatDoorV2
import Derived.Test.YtiggbkhkmecagaaGreatDoorTFs
import Derived.Test.YtiggbkhkmecagaaGreatDoorW0
/- The sums of lines by fund: lines.Funds, lines.Equal. -/
set_option linter.unusedSimpArgs false
set_option linter.unusedVariables false
namespace Go.Proofs.Lx
open Go.Vm
attribute [local irreducible] awpArr awpBin awpMake awpAppend awpCvX awpStrOf awpBinX awpSlice awpBS awpStore awpAlloc awpCopy awpIndex awpDraw awpIdxX awpFa awpField awpLookup awpUpdate awpDelete awpClear awpRange awpNext awpEntry awpBuild awpClearS awpIdxL awpTree appB awpIdxO eltA treeA
def intK (n : Int) : Value := .int .i64 n
def nOf (e : Ent) : Int := match e.key with
  | .int _ n => n
  | _ => 0
def mOf (e : Ent) : Int := match e.val with
  | .v (.int _ n) => n
  | _ => 0
theorem nOf_eq {e : Ent} {k : Int} (h : e.key = intK k) : nOf e = k := by unfold nOf; rw [h]; rfl
def BornI (es : List Ent) (clock : Nat) : Prop := ((es.map (·.born)).Nodup ∧ (es.map nOf).Nodup) ∧ ∀ e ∈ es, e.born < clock
theorem keyEq_int (a b : Int) : keyEq (intK a) (intK b) = (a == b) := by
  have h1 := keyEq_iff (d := .int .i64) (x := intK a) (y := intK b) rfl rfl
  cases h : keyEq (intK a) (intK b)
  · have : ¬ a = b := fun e => by rw [h1.2 (by rw [e])] at h; cases h
    simpa using this
  · have := h1.1 h
    simp only [intK, Value.int.injEq, true_and] at this
    simp [this]
theorem keys_int {es : List Ent} (h : ∀ e ∈ es, ∃ k, e.key = intK k) : ∀ e ∈ es, MapKept.IsKey (.int .i64) e.key := fun e he => by
  obtain ⟨k, hk⟩ := h e he
  rw [hk]; rfl
theorem mget_mputI {v : AV} {c : Nat} (k k' : Int) : ∀ {es : List Ent}, (∀ e ∈ es, ∃ k, e.key = intK k) →
    (mget (intK k') (mput (intK k) v c es)).map Ent.val = if k' = k then some v else (mget (intK k') es).map Ent.val
  | [], _ => by
    simp only [mput, mget, List.find?_cons, List.find?_nil, keyEq_int]
    by_cases h : k' = k
    · simp [h]
    · have h4 : (k' == k) = false := by simpa using h
      simp [h, h4]
  | e :: es, hk => by
    obtain ⟨q, hq⟩ := hk e (List.mem_cons_self ..)
    simp only [mput, hq, keyEq_int]
    by_cases h1 : k = q
    · subst h1
      simp only [beq_self_eq_true, if_true, mget, List.find?_cons, keyEq_int, hq]
      by_cases h : k' = k
      · simp [h]
      · have h4 : (k' == k) = false := by simpa using h
        simp [h, h4]
    · have h2 : (k == q) = false := by simpa using h1
      simp only [h2, Bool.false_eq_true, if_false, mget, List.find?_cons, hq, keyEq_int]
      by_cases h3 : k' = q
      · have : ¬ k' = k := fun e => h1 (e.symm.trans h3)
        simp [h3, Ne.symm h1]
      · have h4 : (k' == q) = false := by simpa using h3
        simp only [h4]
        exact mget_mputI k k' fun e he => hk e (List.mem_cons_of_mem _ he)
theorem mput_keysI {q : Int} {v : AV} {c : Nat} : ∀ {es : List Ent}, (∀ e ∈ es, ∃ k, e.key = intK k) → (mput (intK q) v c es).map nOf = es.map nOf ∨ (q ∉ es.map nOf ∧ (mput (intK q) v c es).map nOf = es.map nOf ++ [q])
  | [], _ => .inr ⟨by simp, by simp [mput, nOf, intK]⟩
  | x :: es, hk => by
    obtain ⟨kx, hx⟩ := hk x (List.mem_cons_self ..)
    have hkx : nOf x = kx := nOf_eq hx
    simp only [mput]
    rw [hx, keyEq_int]
    by_cases hq : q = kx
    · left
      subst hq
      have e1 : nOf ⟨intK q, v, x.born⟩ = nOf x := by rw [hkx]; exact nOf_eq rfl
      simp [e1]
    · have hq' : (q == kx) = false := by simpa using hq
      rw [hq']
      simp only [Bool.false_eq_true, if_false, List.map_cons]
      rcases mput_keysI (q := q) (v := v) (c := c) (es := es) (fun e he => hk e (List.mem_cons_of_mem _ he)) with h | ⟨h1, h2⟩
      · left; rw [h]
      · right
        refine ⟨?_, by rw [h2]; rfl⟩
        simp only [List.mem_cons, not_or]
        exact ⟨by rw [hkx]; exact hq, h1⟩
theorem BornI.put {q : Int} {v : AV} {c : Nat} {es : List Ent} (h : BornI es c) (hk : ∀ e ∈ es, ∃ k, e.key = intK k) : BornI (mput (intK q) v c es) (mclk (intK q) es c) := by
  have hkeys : ((mput (intK q) v c es).map nOf).Nodup := by
    rcases mput_keysI (q := q) (v := v) (c := c) hk with h' | ⟨h1, h2⟩
    · rw [h']; exact h.1.2
    · rw [h2, List.nodup_append]
      exact ⟨h.1.2, by simp, fun a ha b hb => by simp only [List.mem_singleton] at hb; subst hb; intro e; exact h1 (e ▸ ha)⟩
  generalize intK q = k at hkeys ⊢
  have hb : ∀ b ∈ es.map (·.born), b < c := fun b hb => by obtain ⟨e, he, rfl⟩ := List.mem_map.1 hb; exact h.2 e he
  have hc : c ≤ mclk k es c := by unfold mclk; split <;> omega
  rcases mput_born (k := k) (v := v) (c := c) (es := es) with h1 | ⟨h1, h2⟩
  · exact ⟨⟨by rw [h1]; exact h.1.1, hkeys⟩, fun e he => Nat.lt_of_lt_of_le (hb _ (h1 ▸ List.mem_map_of_mem he)) hc⟩
  · have h3 : mclk k es c = c + 1 := by simp [mclk, h1]
    refine ⟨⟨?_, hkeys⟩, fun e he => ?_⟩
    · rw [h2, List.nodup_append]
      refine ⟨h.1.1, by simp, fun a ha b hb' => ?_⟩
      simp only [List.mem_singleton] at hb'
      have := hb a ha
      omega
    · have : e.born ∈ es.map (·.born) ++ [c] := h2 ▸ List.mem_map_of_mem he
      rw [h3]
      rcases List.mem_append.1 this with h4 | h4
      · have := hb _ h4; omega
      · simp only [List.mem_singleton] at h4; omega
theorem mget_iffI {es : List Ent} (hk : ∀ e ∈ es, ∃ k, e.key = intK k) (hn : (es.map nOf).Nodup) {k : Int} {e : Ent} : mget (intK k) es = some e ↔ e ∈ es ∧ nOf e = k := by
  constructor
  · intro h
    have hm := mget_mem h
    obtain ⟨q, hq⟩ := hk e hm
    have := List.find?_some (p := fun (e : Ent) => keyEq (intK k) e.key) h
    rw [hq, keyEq_int] at this
    exact ⟨hm, by rw [nOf_eq hq]; exact (by simpa using this : k = q).symm⟩
  · rintro ⟨hm, hke⟩
    cases hf : mget (intK k) es with
    | none =>
      have := List.find?_eq_none.1 hf e hm
      obtain ⟨q, hq⟩ := hk e hm
      rw [hq, keyEq_int, ← hke, nOf_eq hq] at this
      simp at this
    | some e' =>
      have hm' := mget_mem hf
      obtain ⟨q, hq⟩ := hk e' hm'
      have := List.find?_some (p := fun (e : Ent) => keyEq (intK k) e.key) hf
      rw [hq, keyEq_int] at this
      have hkq : k = q := by simpa using this
      rw [inj_of_map hn hm hm' (by rw [hke, nOf_eq hq]; exact hkq)]
theorem w64_add (a b : Int) : w64 (w64 a + b) = w64 (a + b) := by
  show IntKind.i64.wrap _ = IntKind.i64.wrap _
  rw [wrap_i64_toInt, wrap_i64_toInt]
  congr 1
  show BitVec.ofInt 64 (IntKind.i64.wrap a + b) = _
  rw [wrap_i64_toInt, BitVec.ofInt_add, BitVec.ofInt_toInt, ← BitVec.ofInt_add]
theorem w64s_perm {a b : List Int} (h : a.Perm b) : w64s a = w64s b := by
  refine h.foldl_eq' (fun x _ y _ z => ?_) 0
  show w64 (w64 (z + x) + y) = w64 (w64 (z + y) + x)
  rw [w64_add, w64_add]
  congr 1; omega
def sumF (l : List Ln) (n : Int) : Int := w64s ((l.filter (·.fund == n)).map (·.amt))
theorem sumF_step (l : List Ln) (x : Ln) (n : Int) : sumF (l ++ [x]) n = if n = x.fund then w64 (sumF l n + x.amt) else sumF l n := by
  unfold sumF
  rw [List.filter_append, List.map_append]
  by_cases h : n = x.fund
  · subst h
    simp [List.filter_cons, w64s, List.foldl_append]
  · have : (x.fund == n) = false := by simpa using fun e => h e.symm
    simp [List.filter_cons, this, h]
theorem sumF_none {l : List Ln} {n : Int} (h : ¬ ∃ y ∈ l, y.fund = n) : sumF l n = 0 := by
  have : l.filter (·.fund == n) = [] := List.filter_eq_nil_iff.2 fun y hy => by simpa using fun e => h ⟨y, hy, e⟩
  unfold sumF
  rw [this]; rfl
theorem sumF_perm {l l' : List Ln} (h : l.Perm l') (n : Int) : sumF l n = sumF l' n := w64s_perm ((h.filter _).map _)
/-- The sums by fund. -/
def IsFunds (l r : List Ln) : Prop := r.Pairwise (fun a b => a.fund < b.fund) ∧ ∀ x, x ∈ r ↔ ((∃ y ∈ l, y.fund = x.fund) ∧ x = ⟨x.fund, 0, 0, sumF l x.fund⟩)
theorem funds_same {l r r' : List Ln} (h : IsFunds l r) (h' : IsFunds l r') : r = r' := by
  have hp : r.Perm r' := (List.perm_ext_iff_of_nodup (h.1.imp fun {a b} hab e => by subst e; omega) (h'.1.imp fun {a b} hab e => by subst e; omega)).2 fun x => (h.2 x).trans (h'.2 x).symm
  exact hp.eq_of_pairwise (fun a b _ _ h1 h2 => by omega) h.1 h'.1
theorem IsFunds.perm {l l' r : List Ln} (h : IsFunds l r) (hp : l.Perm l') : IsFunds l' r :=
  ⟨h.1, fun x => (h.2 x).trans (by rw [sumF_perm hp]; exact and_congr_left' ⟨fun ⟨y, h1, h2⟩ => ⟨y, hp.mem_iff.1 h1, h2⟩, fun ⟨y, h1, h2⟩ => ⟨y, hp.mem_iff.2 h1, h2⟩⟩)⟩
theorem nodup_le {α : Type} [DecidableEq α] : ∀ {a b : List α}, a.Nodup → (∀ x ∈ a, x ∈ b) → a.length ≤ b.length
  | [], _, _, _ => by simp
  | x :: a, b, hn, h => by
    have hn := List.nodup_cons.1 hn
    have := nodup_le (b := b.erase x) hn.2 fun y hy => (List.mem_erase_of_ne fun e => hn.1 (by rw [← e]; exact hy)).2 (h y (List.mem_cons_of_mem _ hy))
    rw [List.length_erase_of_mem (h x (List.mem_cons_self ..))] at this
    have hb : 0 < b.length := List.length_pos_of_mem (h x (List.mem_cons_self ..))
    simp only [List.length_cons]; omega
theorem IsFunds.len {l r : List Ln} (h : IsFunds l r) : r.length ≤ l.length := by
  have := nodup_le (a := r.map Ln.fund) (b := l.map Ln.fund) (List.pairwise_map.2 (h.1.imp fun {a b} hab => by omega)) fun x hx => by
    obtain ⟨y, hy, rfl⟩ := List.mem_map.1 hx
    obtain ⟨z, hz, e⟩ := ((h.2 y).1 hy).1
    rw [← e]; exact List.mem_map_of_mem hz
  simpa using this
/-- The entries of sums. -/
def SumE (l : List Ln) (es : List Ent) (clk : Nat) : Prop := (∀ e ∈ es, ∃ n, e.key = intK n) ∧ BornI es clk ∧ es.length ≤ l.length ∧
  ∀ n, ((∃ y ∈ l, y.fund = n) → (mget (intK n) es).map Ent.val = some (.v (.int .i64 (sumF l n)))) ∧ ((¬ ∃ y ∈ l, y.fund = n) → mget (intK n) es = none)
theorem SumE.step {l : List Ln} {es : List Ent} {clk : Nat} (h : SumE l es clk) (x : Ln) : SumE (l ++ [x]) (mput (intK x.fund) (.v (.int .i64 (w64 (sumF l x.fund + x.amt)))) clk es) (mclk (intK x.fund) es clk) := by
  obtain ⟨h1, h2, h3, h4⟩ := h
  refine ⟨fun e he => ?_, h2.put h1, ?_, fun n => ?_⟩
  · rcases mput_mem he with h | ⟨h, -⟩
    · exact h1 e h
    · exact ⟨_, h⟩
  · have := mput_length (k := intK x.fund) (v := .v (.int .i64 (w64 (sumF l x.fund + x.amt)))) (c := clk) es
    rw [List.length_append]; simp only [List.length_cons, List.length_nil]; omega
  · have hg := mget_mputI (v := .v (.int .i64 (w64 (sumF l x.fund + x.amt)))) (c := clk) x.fund n h1
    rw [sumF_step]
    by_cases d : n = x.fund
    · subst d
      rw [if_pos rfl] at hg
      rw [if_pos rfl]
      exact ⟨fun _ => hg, fun hn => (hn ⟨x, by simp, rfl⟩).elim⟩
    · rw [if_neg d] at hg
      rw [if_neg d]
      have hiff : (∃ y ∈ l ++ [x], y.fund = n) ↔ ∃ y ∈ l, y.fund = n := ⟨fun ⟨y, hy, e⟩ => by
        rcases List.mem_append.1 hy with hy | hy
        · exact ⟨y, hy, e⟩
        · rw [List.mem_singleton] at hy; subst hy; exact (d e.symm).elim, fun ⟨y, hy, e⟩ => ⟨y, by simp [hy], e⟩⟩
      rw [hiff]
      refine ⟨fun hn => by rw [hg]; exact (h4 n).1 hn, fun hn => ?_⟩
      have := (h4 n).2 hn
      rw [this] at hg
      cases hm : mget (intK n) (mput (intK x.fund) (.v (.int .i64 (w64 (sumF l x.fund + x.amt)))) clk es) with
      | none => rfl
      | some e => rw [hm] at hg; cases hg
def lnE (e : Ent) : Ln := ⟨nOf e, 0, 0, mOf e⟩
theorem SumE.val {l : List Ln} {es : List Ent} {clk : Nat} (h : SumE l es clk) {e : Ent} (he : e ∈ es) : e.key = intK (nOf e) ∧ e.val = .v (.int .i64 (sumF l (nOf e))) ∧ ∃ y ∈ l, y.fund = nOf e := by
  obtain ⟨n, hn⟩ := h.1 e he
  have hnn := nOf_eq hn
  have hg := (mget_iffI h.1 h.2.1.1.2 (k := nOf e) (e := e)).2 ⟨he, rfl⟩
  have hex : ∃ y ∈ l, y.fund = nOf e := Classical.byContradiction fun hc => by
    rw [(h.2.2.2 _).2 hc] at hg; cases hg
  have := (h.2.2.2 _).1 hex
  rw [hg] at this
  exact ⟨by rw [hnn]; exact hn, by simpa using this, hex⟩
theorem SumE.funds {l : List Ln} {es done : List Ent} {clk : Nat} {r : List Ln} (h : SumE l es clk) (hd : done.Perm es) (hp : r.Perm (done.map lnE)) (hs : r.Pairwise (fun a b => cmpI a.fund b.fund < 0)) : IsFunds l r := by
  refine ⟨hs.imp fun {a b} hab => (cmpI_lt _ _).1 hab, fun x => ?_⟩
  rw [hp.mem_iff, List.mem_map]
  constructor
  · rintro ⟨e, he, rfl⟩
    obtain ⟨h1, h2, h3⟩ := h.val (hd.mem_iff.1 he)
    refine ⟨h3, ?_⟩
    have hm : mOf e = sumF l (nOf e) := by unfold mOf; rw [h2]
    simp only [lnE, hm]
  · rintro ⟨hex, hx⟩
    have := (h.2.2.2 _).1 hex
    cases hm : mget (intK x.fund) es with
    | none => rw [hm] at this; cases this
    | some e =>
      obtain ⟨he, hn⟩ := (mget_iffI h.1 h.2.1.1.2).1 hm
      refine ⟨e, hd.mem_iff.2 he, ?_⟩
      obtain ⟨h1, h2, h3⟩ := h.val he
      have hmm : mOf e = sumF l (nOf e) := by unfold mOf; rw [h2]
      rw [hx]
      simp only [lnE, hmm, hn]
theorem SumE.nodup {l : List Ln} {es done : List Ent} {clk : Nat} (h : SumE l es clk) (hd : done.Perm es) : ((done.map lnE).map Ln.fund).Nodup := by
  rw [List.map_map]
  have : (done.map nOf).Nodup := ((hd.map nOf).nodup_iff).2 h.2.1.1.2
  exact this
theorem does_sortLine : Does Tryz.prog 100 (orS sortLnSpec sortLnNilSpec) := does_or does_sortLn does_sortLnNil
def fundsSpec : Vm.Spec := fun args h Q => ∃ l : List Ln, l.length ≤ 1073741824 ∧ args = [.sl 4 (l.map lnAv)] ∧ ∀ r h', IsFunds l r → Same h h' [] → Q (.own true 45 4 (r.map lnAv)) h'
set_option maxRecDepth 20000 in
set_option maxHeartbeats 1000000 in
theorem does_funds : Does Tryz.prog 26 fundsSpec := by
  refine does_of_awp (good_cons does_sortLine good_nil) Tryz.func26 rfl (by decide +kernel) (by decide +kernel) ?_
  rintro args h Q ⟨l, hl, rfl, hq⟩
  refine ⟨by simp [Tryz.f26], ?_⟩
  rw [awpFunc_some (by rfl)]
  simp -dsimp only [Vm.G, List.lookup, Nat.reduceAdd, Nat.reduceBEq, Int.reduceBNe, Int.reduceBEq, Nat.reduceLeDiff, q26]
  refine awp_loop (fun m s h' => ∃ (i : Nat) (es : List Ent) (clk : Nat), i + m = l.length ∧ SumE (l.take i) es clk ∧ h' = h ++ [.map es clk] ∧ s = mk [(3, .mp h.length), (10, .sl 4 (l.map lnAv)), (11, .v (.int .i64 l.length)), (12, .v (.int .i64 (i : Nat)))])
    l.length _ (le_mk _ ?_) ⟨0, [], 0, by omega, ⟨by simp, ⟨⟨.nil, .nil⟩, by simp⟩, by simp, fun n => ⟨fun ⟨y, hy, _⟩ => by simp at hy, fun _ => rfl⟩⟩, rfl, rfl⟩ ?_
  · simp only [List.forall_mem_cons, List.not_mem_nil, false_imp_iff, implies_true, and_true]
    try simp -dsimp only [Vm.G, List.lookup, Nat.reduceAdd, Nat.reduceBEq, Int.reduceBNe, Int.reduceBEq, Nat.reduceLeDiff, q26]
    repeat' first | exact Fg.refl _ | exact Fg.nil _ _ _ (by decide) | refine And.intro ?_ ?_
  · rintro m s h' ⟨i, es, clk, hi, hE, rfl, rfl⟩
    simp -dsimp only [Vm.G, List.lookup, Nat.reduceAdd, Nat.reduceBEq, Int.reduceBNe, Int.reduceBEq, Nat.reduceLeDiff, q26]
    refine cond_intro (fun hcc => ?_) (fun hcc => ?_)
    · have hlt : i < l.length := by have := of_decide_eq_true hcc; omega
      have hw : IntKind.i64.wrap ((i : Int) + 1) = ((i + 1 : Nat) : Int) := by rw [wrap_i64 (by omega) (by omega)]; simp
      have hst := hE.step l[i]
      rw [← List.take_succ_eq_append_getElem hlt] at hst
      obtain ⟨x, hx⟩ : ∃ x, l[i] = x := ⟨_, rfl⟩
      have hel := hE.2.2.2 x.fund
      rw [hx] at hst
      simp -dsimp only [Vm.G, List.lookup, Nat.reduceAdd, Nat.reduceBEq, Int.reduceBNe, Int.reduceBEq, Nat.reduceLeDiff, q26]
      refine idx_map lnAv l i hlt ?_
      simp only [hx, lnAv, lnCells]
      simp -dsimp only [Vm.G, List.lookup, Nat.reduceAdd, Nat.reduceBEq, Int.reduceBNe, Int.reduceBEq, Nat.reduceLeDiff, q26, AV.cells]
      have fin : ∀ a : Int, a = sumF (l.take i) x.fund → SumE (l.take (i + 1)) (mput (intK x.fund) (.v (.int .i64 (IntKind.i64.wrap (a + x.amt)))) clk es) (mclk (intK x.fund) es clk) := fun a ha => by rw [ha]; exact hst
      refine lookup_intro mt147 z3 es clk (heap_last _ _) rfl (keys_int hE.1) (fun e he => ?_) (fun he => ?_)
      · have he : mget (intK x.fund) es = some e := he
        have hex : ∃ y ∈ l.take i, y.fund = x.fund := Classical.byContradiction fun hc => by rw [hel.2 hc] at he; cases he
        have hv := hel.1 hex
        rw [he] at hv
        have hv : e.val = .v (.int .i64 (sumF (l.take i) x.fund)) := by simpa using hv
        have f2 := fin _ rfl
        simp -dsimp only [Vm.G, List.lookup, Nat.reduceAdd, Nat.reduceBEq, Int.reduceBNe, Int.reduceBEq, Nat.reduceLeDiff, q26, hv, lookRes, cst, Bool.false_eq_true, if_false]
        refine update_intro mt147 es clk (heap_last _ _) (kv := .int .i64 x.fund) (by rfl) (keys_int hE.1) ?_
        simp -dsimp only [Vm.G, List.lookup, Nat.reduceAdd, Nat.reduceBEq, Int.reduceBNe, Int.reduceBEq, Nat.reduceLeDiff, q26, heap_setLast]
        refine kept_intro ⟨l.length - (i + 1), by omega, _, le_mk [(3, .mp h.length), (10, .sl 4 (l.map lnAv)), (11, .v (.int .i64 l.length)), (12, .v (.int .i64 (i + 1 : Nat)))] ?_, i + 1, _, _, by omega, f2, rfl, rfl⟩
        simp only [List.forall_mem_cons, List.not_mem_nil, false_imp_iff, implies_true, and_true, hw]
        try simp -dsimp only [Vm.G, List.lookup, Nat.reduceAdd, Nat.reduceBEq, Int.reduceBNe, Int.reduceBEq, Nat.reduceLeDiff, q26, hw]
        repeat' first | exact Fg.refl _ | exact Fg.nil _ _ _ (by decide) | refine And.intro ?_ ?_
      · have hne : ¬ ∃ y ∈ l.take i, y.fund = x.fund := fun hc => by have := hel.1 hc; rw [show mget (intK x.fund) es = none from he] at this; cases this
        have f2 := fin 0 (sumF_none hne).symm
        have k0 : ∀ v b, lookRes false v b = v := fun _ _ => rfl
        simp -dsimp only [Vm.G, List.lookup, Nat.reduceAdd, Nat.reduceBEq, Int.reduceBNe, Int.reduceBEq, Nat.reduceLeDiff, q26, k0]
        refine update_intro mt147 es clk (heap_last _ _) (kv := .int .i64 x.fund) (by rfl) (keys_int hE.1) ?_
        simp -dsimp only [Vm.G, List.lookup, Nat.reduceAdd, Nat.reduceBEq, Int.reduceBNe, Int.reduceBEq, Nat.reduceLeDiff, q26, heap_setLast]
        refine kept_intro ⟨l.length - (i + 1), by omega, _, le_mk [(3, .mp h.length), (10, .sl 4 (l.map lnAv)), (11, .v (.int .i64 l.length)), (12, .v (.int .i64 (i + 1 : Nat)))] ?_, i + 1, _, _, by omega, f2, rfl, rfl⟩
        simp only [List.forall_mem_cons, List.not_mem_nil, false_imp_iff, implies_true, and_true, hw]
        try simp -dsimp only [Vm.G, List.lookup, Nat.reduceAdd, Nat.reduceBEq, Int.reduceBNe, Int.reduceBEq, Nat.reduceLeDiff, q26, hw]
        repeat' first | exact Fg.refl _ | exact Fg.nil _ _ _ (by decide) | refine And.intro ?_ ?_
    · have hge : ¬ i < l.length := by have := of_decide_eq_false hcc; omega
      rw [List.take_of_length_le (by omega)] at hE
      have g0 := heap_last h (AObj.map es clk)
      have hsame := Same.more h [AObj.map es clk]
      generalize h ++ [AObj.map es clk] = hh at g0 hsame ⊢
      simp -dsimp only [Vm.G, List.lookup, Nat.reduceAdd, Nat.reduceBEq, Int.reduceBNe, Int.reduceBEq, Nat.reduceLeDiff, q26]
      refine range_intro mt147 es clk g0 ?_
      simp -dsimp only [Vm.G, List.lookup, Nat.reduceAdd, Nat.reduceBEq, Int.reduceBNe, Int.reduceBEq, Nat.reduceLeDiff, q26]
      refine awp_loop (fun m s h' => ∃ done : List Ent, m = (leftE es (done.map (·.born))).length ∧ done.length + m ≤ es.length ∧ h' = hh ∧ (∀ d ∈ done, d ∈ es) ∧ (done.map (·.born)).Nodup ∧ s = mk [(6, .own true 45 4 (((done).map lnE).map lnAv)), (25, .iter h.length clk ((done).map (·.born)) clk)])
        es.length _ (le_mk _ ?_) ⟨[], (congrArg List.length (List.filter_eq_self.2 fun _ _ => rfl)).symm, by simp, rfl, by simp, by simp, rfl⟩ ?_
      · simp only [List.forall_mem_cons, List.not_mem_nil, false_imp_iff, implies_true, and_true]
        try simp -dsimp only [Vm.G, List.lookup, Nat.reduceAdd, Nat.reduceBEq, Int.reduceBNe, Int.reduceBEq, Nat.reduceLeDiff, q26]
        repeat' first | exact Fg.refl _ | exact Fg.nil _ _ _ (by decide) | refine And.intro ?_ ?_
      · clear hi hcc hge
        rintro m s h' ⟨done, rfl, hlen, rfl, hd, hdn, rfl⟩
        simp -dsimp only [Vm.G, List.lookup, Nat.reduceAdd, Nat.reduceBEq, Int.reduceBNe, Int.reduceBEq, Nat.reduceLeDiff, q26]
        refine next_intro es clk g0 (fun e he => hE.2.1.2 e he) (Nat.le_refl _) (fun hlf => ?_) (fun e he => ?_)
        · have hD : done.Perm es := seen_all hE.2.1.1.1 hd hdn hlf
          have hnd := hE.nodup hD
          have hel := hE.2.2.1
          have hdl := hD.length_eq
          simp -dsimp only [Vm.G, List.lookup, Nat.reduceAdd, Nat.reduceBEq, Int.reduceBNe, Int.reduceBEq, Nat.reduceLeDiff, q26]
          refine call_in _ _ _ ?_
          simp -dsimp only [Vm.G, List.lookup, Nat.reduceAdd, Nat.reduceBEq, Int.reduceBNe, Int.reduceBEq, Nat.reduceLeDiff, q26, callI_eq, ownSl_own, ownSl_alias]
          refine callI_tup (S := orS sortLnSpec sortLnNilSpec) (fun xs' => ∃ l' : List Ln, xs' = l'.map lnAv ∧ l'.Perm (done.map lnE) ∧ l'.Pairwise (fun a b => cmpI a.fund b.fund < 0)) rfl
            (fun xs' hx => ?_) (fun hx => ⟨?_, fun Q' hq' => .inr ⟨_, rfl, hq'⟩⟩) (fun c hc Q' hq' => .inl ⟨done.map lnE, _, c, 45, by rw [List.length_map], rfl, hnd, by rw [List.length_map]; omega, by rw [List.length_map] at hc; exact hc, fun l' hp hs => hq' _ _ ⟨l', rfl, hp, hs⟩ ?_⟩) (fun xs' hx => ?_)
          · obtain ⟨l', rfl, hp, hs⟩ := hx
            exact ⟨fun x hx => (hp.map lnAv).mem_iff.1 hx, by rw [List.length_map, List.length_map, hp.length_eq]⟩
          · have hnil : done.map lnE = [] := List.map_eq_nil_iff.1 hx
            exact ⟨[], rfl, by rw [hnil], .nil⟩
          · rw [List.take_of_length_le]
            rw [flat_length (sz := 4) (fun x hx => by obtain ⟨p, -, rfl⟩ := List.mem_map.1 hx; rfl)]
            exact Nat.le_refl _
          · obtain ⟨l', rfl, hp, hs⟩ := hx
            simp -dsimp only [Vm.G, List.lookup, Nat.reduceAdd, Nat.reduceBEq, Int.reduceBNe, Int.reduceBEq, Nat.reduceLeDiff, q26]
            exact hq l' _ (hE.funds hD hp hs) hsame
        · obtain ⟨hem, heb⟩ := left_mem he
          obtain ⟨hk, hv, hex⟩ := hE.val hem
          obtain ⟨hd2, hdn2⟩ := done_more he hd hdn
          have hless := left_less he
          have emap : (done ++ [e]).map (·.born) = done.map (·.born) ++ [e.born] := by simp
          have hln : lnE e = ⟨nOf e, 0, 0, sumF l (nOf e)⟩ := by unfold lnE mOf; rw [hv]
          have hlnn := hE.2.2.1
          simp -dsimp only [Vm.G, List.lookup, Nat.reduceAdd, Nat.reduceBEq, Int.reduceBNe, Int.reduceBEq, Nat.reduceLeDiff, q26]
          refine entry_intro es clk e g0 (find_born hE.2.1.1.1 hem) ?_
          simp only [hk, hv, intK]
          simp -dsimp only [Vm.G, List.lookup, Nat.reduceAdd, Nat.reduceBEq, Int.reduceBNe, Int.reduceBEq, Nat.reduceLeDiff, q26]
          refine bs_intro zr45 (by decide) (by decide) rfl rfl (by simp [solid, AV.cells]) ?_
          simp -dsimp only [Vm.G, List.lookup, Nat.reduceAdd, Nat.reduceBEq, Int.reduceBNe, Int.reduceBEq, Nat.reduceLeDiff, q26]
          refine app_sl Tryz.underlying36 (by simp [AV.cells]) (by simp only [List.length_map, List.length_cons, List.length_nil]; omega) ?_
          simp -dsimp only [Vm.G, List.lookup, Nat.reduceAdd, Nat.reduceBEq, Int.reduceBNe, Int.reduceBEq, Nat.reduceLeDiff, q26]
          refine kept_intro ⟨_, hless, _, le_mk [(6, .own true 45 4 (((done ++ [e]).map lnE).map lnAv)), (25, .iter h.length clk ((done ++ [e]).map (·.born)) clk)] ?_, done ++ [e], by rw [emap], by rw [List.length_append]; simp only [List.length_cons, List.length_nil]; omega, rfl, hd2, hdn2, rfl⟩
          simp only [List.forall_mem_cons, List.not_mem_nil, false_imp_iff, implies_true, and_true, List.map_append, List.map_cons, List.map_nil, hln, lnAv, lnCells]
          try simp -dsimp only [Vm.G, List.lookup, Nat.reduceAdd, Nat.reduceBEq, Int.reduceBNe, Int.reduceBEq, Nat.reduceLeDiff, q26, List.map_append, List.map_cons, List.map_nil, hln, lnAv, lnCells]
          repeat' first | exact Fg.refl _ | exact Fg.nil _ _ _ (by decide) | refine And.intro ?_ ?_
def lineNz (x : Ln) : Bool := x.amt != 0
theorem does_lineNz : Does Tryz.prog 103 (askLn lineNz) := by
  refine does_of_awp good_nil Tryz.func103 rfl (by decide +kernel) (by decide +kernel) ?_
  rintro args h Q ⟨x, rfl, hq⟩
  refine ⟨by simp [Tryz.f103], ?_⟩
  rw [awpFunc_some (by rfl)]
  simp only [lnAv, lnCells]
  simp -dsimp only [Vm.G, List.lookup, Nat.reduceAdd, Nat.reduceBEq, Int.reduceBNe, Int.reduceBEq, Nat.reduceLeDiff, q103]
  exact hq
def nzT : Tab := tab [(103, askLn lineNz)]
theorem good_nzT : Good nzT := good_cons does_lineNz good_nil
end Go.Proofs.Lx
/- The reference's sums of lines by fund: ref23.Funds, ref23.Equal. -/
set_option linter.unusedSimpArgs false
set_option linter.unusedVariables false
namespace Go.Proofs.Lx
open Go.Vm
attribute [local irreducible] awpArr awpBin awpMake awpAppend awpCvX awpStrOf awpBinX awpSlice awpBS awpStore awpAlloc awpCopy awpIndex awpDraw awpIdxX awpFa awpField awpLookup awpUpdate awpDelete awpClear awpRange awpNext awpEntry awpBuild awpClearS awpIdxL awpTree appB awpIdxO eltA treeA
theorem IsFunds.at {p r : List Ln} (h : IsFunds p r) (k : Nat) (hk : k < r.length) : r[k] = ⟨r[k].fund, 0, 0, sumF p r[k].fund⟩ ∧ ∃ y ∈ p, y.fund = r[k].fund :=
  ⟨((h.2 _).1 (List.getElem_mem hk)).2, ((h.2 _).1 (List.getElem_mem hk)).1⟩
theorem IsFunds.lt {p r : List Ln} (h : IsFunds p r) {i j : Nat} (hij : i < j) (hj : j < r.length) : (r[i]'(by omega)).fund < r[j].fund := List.pairwise_iff_getElem.1 h.1 i j (by omega) hj hij
theorem has_more {p : List Ln} {x : Ln} {n : Int} (d : n ≠ x.fund) : (∃ y ∈ p ++ [x], y.fund = n) ↔ ∃ y ∈ p, y.fund = n := ⟨fun ⟨y, hy, e⟩ => by
  rcases List.mem_append.1 hy with hy | hy
  · exact ⟨y, hy, e⟩
  · rw [List.mem_singleton] at hy; subst hy; exact (d e.symm).elim, fun ⟨y, hy, e⟩ => ⟨y, by simp [hy], e⟩⟩
theorem IsFunds.more {p r : List Ln} (h : IsFunds p r) (x : Ln) (j : Nat) (hj : j < r.length) (hx : r[j].fund = x.fund) :
    IsFunds (p ++ [x]) (r.set j ⟨r[j].fund, r[j].obj, r[j].node, w64 (r[j].amt + x.amt)⟩) := by
  obtain ⟨h1, h2⟩ := h.at j hj
  have e1 : r[j].obj = 0 := by rw [h1]
  have e2 : r[j].node = 0 := by rw [h1]
  have e3 : r[j].amt = sumF p x.fund := by rw [h1, ← hx]
  rw [e1, e2, e3, hx]
  have hmap : ∀ y : Ln, y.fund = x.fund → (r.set j y).map Ln.fund = r.map Ln.fund := fun y hy => by
    rw [List.map_set, hy, ← hx]
    apply List.ext_getElem (by simp)
    intro k k1 k2
    rw [List.getElem_set]
    split
    · subst_vars; rw [List.getElem_map]
    · rfl
  refine ⟨?_, fun z => ?_⟩
  · have := List.pairwise_map.2 h.1
    rw [← hmap ⟨x.fund, 0, 0, w64 (sumF p x.fund + x.amt)⟩ rfl] at this
    exact List.pairwise_map.1 this
  · rw [sumF_step]
    by_cases d : z.fund = x.fund
    · rw [if_pos d]
      constructor
      · intro hz
        obtain ⟨k, hk, rfl⟩ := List.getElem_of_mem hz
        rw [List.length_set] at hk
        by_cases hkj : j = k
        · subst hkj
          rw [List.getElem_set_self]
          exact ⟨⟨x, by simp, rfl⟩, rfl⟩
        · rw [List.getElem_set_ne hkj] at d
          rcases Nat.lt_or_ge k j with h' | h'
          · have := h.lt h' hj; omega
          · have := h.lt (i := j) (j := k) (by omega) hk; omega
      · rintro ⟨-, hz⟩
        rw [hz, d]
        exact List.mem_set hj _
    · rw [if_neg d, has_more d, ← h.2 z]
      constructor
      · intro hz
        rcases List.mem_or_eq_of_mem_set hz with h' | h'
        · exact h'
        · exact (d (by rw [h'])).elim
      · intro hz
        obtain ⟨k, hk, rfl⟩ := List.getElem_of_mem hz
        have hne : j ≠ k := fun e => by subst e; exact d hx
        have : (r.set j ⟨x.fund, 0, 0, w64 (sumF p x.fund + x.amt)⟩)[k]'(by rw [List.length_set]; exact hk) = r[k] := List.getElem_set_ne hne _
        rw [← this]; exact List.getElem_mem _
end Go.Proofs.Lx
/- Charts, the reference's: ref21; lines checked: lines.Check, ref23.Check. -/
set_option linter.unusedSimpArgs false
set_option linter.unusedVariables false
namespace Go.Proofs.Lx
open Go.Vm
attribute [local irreducible] awpArr awpBin awpMake awpAppend awpCvX awpStrOf awpBinX awpSlice awpBS awpStore awpAlloc awpCopy awpIndex awpDraw awpIdxX awpFa awpField awpLookup awpUpdate awpDelete awpClear awpRange awpNext awpEntry awpBuild awpClearS awpIdxL awpTree appB awpIdxO eltA treeA
/-- A line that may be. -/
def rightL (x : Ln) : Bool := !((x.amt == 0) || (decide (x.amt > 9007199254740992) || decide (x.amt < -9007199254740992))) && !((x.node != 0) || ((x.obj == 1900) || (x.obj == 2900)))
set_option maxHeartbeats 1000000 in
theorem does_rightL : Does Tryz.prog 97 (askLn rightL) := by
  refine does_of_awp good_nil Tryz.func97 rfl (by decide +kernel) (by decide +kernel) ?_
  rintro args h Q ⟨x, rfl, hq⟩
  refine ⟨by simp [Tryz.f97], ?_⟩
  rw [awpFunc_some (by rfl)]
  have hq' : ∀ b, rightL x = b → Q (.v (.bool b)) h := fun b hb => hb ▸ hq
  unfold rightL at hq'
  clear hq
  simp only [lnAv, lnCells]
  simp -dsimp only [Vm.G, List.lookup, Nat.reduceAdd, Nat.reduceBEq, Int.reduceBNe, Int.reduceBEq, Nat.reduceLeDiff, q97]
  cases c1 : (x.amt == 0)
  · simp -dsimp only [Vm.G, List.lookup, Nat.reduceAdd, Nat.reduceBEq, Int.reduceBNe, Int.reduceBEq, Nat.reduceLeDiff, q97, c1]
    cases c2 : decide (x.amt > 9007199254740992)
    · simp -dsimp only [Vm.G, List.lookup, Nat.reduceAdd, Nat.reduceBEq, Int.reduceBNe, Int.reduceBEq, Nat.reduceLeDiff, q97, c2]
      cases c3 : decide (x.amt < -9007199254740992)
      · simp -dsimp only [Vm.G, List.lookup, Nat.reduceAdd, Nat.reduceBEq, Int.reduceBNe, Int.reduceBEq, Nat.reduceLeDiff, q97, c3]
        cases c4 : (x.node != 0)
        · simp -dsimp only [Vm.G, List.lookup, Nat.reduceAdd, Nat.reduceBEq, Int.reduceBNe, Int.reduceBEq, Nat.reduceLeDiff, q97, c4]
          cases c5 : (x.obj == 1900)
          · simp -dsimp only [Vm.G, List.lookup, Nat.reduceAdd, Nat.reduceBEq, Int.reduceBNe, Int.reduceBEq, Nat.reduceLeDiff, q97, c5]
            cases c6 : (x.obj == 2900)
            · simp -dsimp only [Vm.G, List.lookup, Nat.reduceAdd, Nat.reduceBEq, Int.reduceBNe, Int.reduceBEq, Nat.reduceLeDiff, q97, c6]
              exact hq' _ (by rw [c1, c2, c3, c4, c5, c6]; rfl)
            · simp -dsimp only [Vm.G, List.lookup, Nat.reduceAdd, Nat.reduceBEq, Int.reduceBNe, Int.reduceBEq, Nat.reduceLeDiff, q97, c6]
              exact hq' _ (by rw [c1, c2, c3, c4, c5, c6]; rfl)
          · simp -dsimp only [Vm.G, List.lookup, Nat.reduceAdd, Nat.reduceBEq, Int.reduceBNe, Int.reduceBEq, Nat.reduceLeDiff, q97, c5]
            exact hq' _ (by rw [c1, c2, c3, c4, c5]; rfl)
        · simp -dsimp only [Vm.G, List.lookup, Nat.reduceAdd, Nat.reduceBEq, Int.reduceBNe, Int.reduceBEq, Nat.reduceLeDiff, q97, c4]
          exact hq' _ (by rw [c1, c2, c3, c4]; rfl)
      · simp -dsimp only [Vm.G, List.lookup, Nat.reduceAdd, Nat.reduceBEq, Int.reduceBNe, Int.reduceBEq, Nat.reduceLeDiff, q97, c3]
        exact hq' _ (by rw [c1, c2, c3]; rfl)
    · simp -dsimp only [Vm.G, List.lookup, Nat.reduceAdd, Nat.reduceBEq, Int.reduceBNe, Int.reduceBEq, Nat.reduceLeDiff, q97, c2]
      exact hq' _ (by rw [c1, c2]; rfl)
  · simp -dsimp only [Vm.G, List.lookup, Nat.reduceAdd, Nat.reduceBEq, Int.reduceBNe, Int.reduceBEq, Nat.reduceLeDiff, q97, c1]
    exact hq' _ (by rw [c1]; rfl)
def knownL (f : Fun) (x : Ln) : Bool := (f (fundK x.fund)).isSome && objOk f x.obj
def sumA (l : List Ln) : Int := w64s (l.map (·.amt))
def checkL (f : Fun) (l : List Ln) : Int :=
  if l.length < 2 ∨ 6 < l.length then 1 else if l.all rightL = false then 1 else if l.all (knownL f) = false then 7 else if sumA l ≠ 0 then 10 else 0
theorem sumA_step (l : List Ln) (i : Nat) (h : i < l.length) : sumA (l.take (i + 1)) = w64 (sumA (l.take i) + l[i].amt) := by
  unfold sumA
  rw [List.take_succ_eq_append_getElem h, List.map_append, w64s, List.foldl_append]; rfl
theorem all_no {p : Ln → Bool} {l : List Ln} (i : Nat) (h : i < l.length) (hp : p l[i] = false) : l.all p = false := List.all_eq_false.2 ⟨l[i], List.getElem_mem h, by rw [hp]; decide⟩
theorem all_yes {p : Ln → Bool} {l : List Ln} (h : ∀ j (hj : j < l.length), p l[j] = true) : l.all p = true := List.all_eq_true.2 fun x hx => by
  obtain ⟨j, hj, rfl⟩ := List.getElem_of_mem hx
  exact h j hj
theorem yes_more {p : Ln → Bool} {l : List Ln} {i : Nat} (hb : ∀ j (hj : j < l.length), j < i → p l[j] = true) (hi : i < l.length) (h : p l[i] = true) : ∀ j (hj : j < l.length), j < i + 1 → p l[j] = true := fun j hj hj2 => by
  by_cases hji : j = i
  · subst hji; exact h
  · exact hb j hj (by omega)
end Go.Proofs.Lx
/- Lines in a row that several may write: lines.Funds, Equal, Check of it; law23.awake. -/
set_option linter.unusedSimpArgs false
set_option linter.unusedVariables false
namespace Go.Proofs.Lx
open Go.Vm
attribute [local irreducible] awpArr awpBin awpMake awpAppend awpCvX awpStrOf awpBinX awpSlice awpBS awpStore awpAlloc awpCopy awpIndex awpDraw awpIdxX awpFa awpField awpLookup awpUpdate awpDelete awpClear awpRange awpNext awpEntry awpBuild awpClearS awpIdxL awpTree appB awpIdxO eltA treeA
/-- A row of lines. -/
def lnRow (h : Heap) (id : Nat) (l : List Ln) : Prop := ∃ e m, h[id]? = some (.row e m (flat (l.map lnAv)))
theorem ln_cells {l : List Ln} : ∀ x ∈ l.map lnAv, x.cells.length = 4 := fun x hx => by obtain ⟨p, -, rfl⟩ := List.mem_map.1 hx; rfl
theorem ln_elem (l : List Ln) (i : Nat) (hi : i < l.length) : ((flat (l.map lnAv)).drop (i * 4)).take 4 = lnCells l[i] ∧ 4 ≤ ((flat (l.map lnAv)).drop (i * 4)).length := by
  have h := row_elem (sz := 4) (xs := l.map lnAv) (cs := flat (l.map lnAv)) ln_cells (by rw [List.take_of_length_le (by rw [flat_length ln_cells]; exact Nat.le_refl _)]) i (by rw [List.length_map]; exact hi)
  rw [List.getElem_map] at h
  exact h
def fundsOSpec : Vm.Spec := fun args h Q => ∃ (l : List Ln) (id c : Nat), l.length ≤ 1073741824 ∧ args = [.osl id 0 l.length c] ∧ lnRow h id l ∧ ∀ r h', IsFunds l r → Same h h' [] → Q (.own true 45 4 (r.map lnAv)) h'
set_option maxRecDepth 20000 in
set_option maxHeartbeats 1000000 in
theorem does_fundsO : Does Tryz.prog 26 fundsOSpec := by
  refine does_of_awp (good_cons does_sortLine good_nil) Tryz.func26 rfl (by decide +kernel) (by decide +kernel) ?_
  rintro args h Q ⟨l, id, c, hl, rfl, ⟨re, rm, hh⟩, hq⟩
  refine ⟨by simp [Tryz.f26], ?_⟩
  rw [awpFunc_some (by rfl)]
  simp -dsimp only [Vm.G, List.lookup, Nat.reduceAdd, Nat.reduceBEq, Int.reduceBNe, Int.reduceBEq, Nat.reduceLeDiff, q26]
  refine awp_loop (fun m s h' => ∃ (i : Nat) (es : List Ent) (clk : Nat), i + m = l.length ∧ SumE (l.take i) es clk ∧ h' = h ++ [.map es clk] ∧ s = mk [(3, .mp h.length), (10, .osl id 0 l.length c), (11, .v (.int .i64 l.length)), (12, .v (.int .i64 (i : Nat)))])
    l.length _ (le_mk _ ?_) ⟨0, [], 0, by omega, ⟨by simp, ⟨⟨.nil, .nil⟩, by simp⟩, by simp, fun n => ⟨fun ⟨y, hy, _⟩ => by simp at hy, fun _ => rfl⟩⟩, rfl, rfl⟩ ?_
  · simp only [List.forall_mem_cons, List.not_mem_nil, false_imp_iff, implies_true, and_true]
    try simp -dsimp only [Vm.G, List.lookup, Nat.reduceAdd, Nat.reduceBEq, Int.reduceBNe, Int.reduceBEq, Nat.reduceLeDiff, q26]
    repeat' first | exact Fg.refl _ | exact Fg.nil _ _ _ (by decide) | refine And.intro ?_ ?_
  · rintro m s h' ⟨i, es, clk, hi, hE, rfl, rfl⟩
    simp -dsimp only [Vm.G, List.lookup, Nat.reduceAdd, Nat.reduceBEq, Int.reduceBNe, Int.reduceBEq, Nat.reduceLeDiff, q26]
    refine cond_intro (fun hcc => ?_) (fun hcc => ?_)
    · have hlt : i < l.length := by have := of_decide_eq_true hcc; omega
      have hw : IntKind.i64.wrap ((i : Int) + 1) = ((i + 1 : Nat) : Int) := by rw [wrap_i64 (by omega) (by omega)]; simp
      have hst := hE.step l[i]
      rw [← List.take_succ_eq_append_getElem hlt] at hst
      obtain ⟨x, hx⟩ : ∃ x, l[i] = x := ⟨_, rfl⟩
      have hel := hE.2.2.2 x.fund
      rw [hx] at hst
      simp -dsimp only [Vm.G, List.lookup, Nat.reduceAdd, Nat.reduceBEq, Int.reduceBNe, Int.reduceBEq, Nat.reduceLeDiff, q26]
      have hre := ln_elem l i hlt
      rcases hre with ⟨r1, r2⟩
      rw [hx] at r1
      simp only [lnCells] at r1
      have hg := heap_get [AObj.map es clk] hh
      refine idxL_intro (by omega) (by omega) ?_
      simp -dsimp only [Vm.G, List.lookup, Nat.reduceAdd, Nat.reduceBEq, Int.reduceBNe, Int.reduceBEq, Nat.reduceLeDiff, q26, hg, Int.toNat_natCast, r1, r2]
      have fin : ∀ a : Int, a = sumF (l.take i) x.fund → SumE (l.take (i + 1)) (mput (intK x.fund) (.v (.int .i64 (IntKind.i64.wrap (a + x.amt)))) clk es) (mclk (intK x.fund) es clk) := fun a ha => by rw [ha]; exact hst
      refine lookup_intro mt147 z3 es clk (heap_last _ _) rfl (keys_int hE.1) (fun e he => ?_) (fun he => ?_)
      · have he : mget (intK x.fund) es = some e := he
        have hex : ∃ y ∈ l.take i, y.fund = x.fund := Classical.byContradiction fun hc => by rw [hel.2 hc] at he; cases he
        have hv := hel.1 hex
        rw [he] at hv
        have hv : e.val = .v (.int .i64 (sumF (l.take i) x.fund)) := by simpa using hv
        have f2 := fin _ rfl
        simp -dsimp only [Vm.G, List.lookup, Nat.reduceAdd, Nat.reduceBEq, Int.reduceBNe, Int.reduceBEq, Nat.reduceLeDiff, q26, hv, lookRes, cst, Bool.false_eq_true, if_false]
        refine update_intro mt147 es clk (heap_last _ _) (kv := .int .i64 x.fund) (by rfl) (keys_int hE.1) ?_
        simp -dsimp only [Vm.G, List.lookup, Nat.reduceAdd, Nat.reduceBEq, Int.reduceBNe, Int.reduceBEq, Nat.reduceLeDiff, q26, heap_setLast]
        refine kept_intro ⟨l.length - (i + 1), by omega, _, le_mk [(3, .mp h.length), (10, .osl id 0 l.length c), (11, .v (.int .i64 l.length)), (12, .v (.int .i64 (i + 1 : Nat)))] ?_, i + 1, _, _, by omega, f2, rfl, rfl⟩
        simp only [List.forall_mem_cons, List.not_mem_nil, false_imp_iff, implies_true, and_true, hw]
        try simp -dsimp only [Vm.G, List.lookup, Nat.reduceAdd, Nat.reduceBEq, Int.reduceBNe, Int.reduceBEq, Nat.reduceLeDiff, q26, hw]
        repeat' first | exact Fg.refl _ | exact Fg.nil _ _ _ (by decide) | refine And.intro ?_ ?_
      · have hne : ¬ ∃ y ∈ l.take i, y.fund = x.fund := fun hc => by have := hel.1 hc; rw [show mget (intK x.fund) es = none from he] at this; cases this
        have f2 := fin 0 (sumF_none hne).symm
        have k0 : ∀ v b, lookRes false v b = v := fun _ _ => rfl
        simp -dsimp only [Vm.G, List.lookup, Nat.reduceAdd, Nat.reduceBEq, Int.reduceBNe, Int.reduceBEq, Nat.reduceLeDiff, q26, k0]
        refine update_intro mt147 es clk (heap_last _ _) (kv := .int .i64 x.fund) (by rfl) (keys_int hE.1) ?_
        simp -dsimp only [Vm.G, List.lookup, Nat.reduceAdd, Nat.reduceBEq, Int.reduceBNe, Int.reduceBEq, Nat.reduceLeDiff, q26, heap_setLast]
        refine kept_intro ⟨l.length - (i + 1), by omega, _, le_mk [(3, .mp h.length), (10, .osl id 0 l.length c), (11, .v (.int .i64 l.length)), (12, .v (.int .i64 (i + 1 : Nat)))] ?_, i + 1, _, _, by omega, f2, rfl, rfl⟩
        simp only [List.forall_mem_cons, List.not_mem_nil, false_imp_iff, implies_true, and_true, hw]
        try simp -dsimp only [Vm.G, List.lookup, Nat.reduceAdd, Nat.reduceBEq, Int.reduceBNe, Int.reduceBEq, Nat.reduceLeDiff, q26, hw]
        repeat' first | exact Fg.refl _ | exact Fg.nil _ _ _ (by decide) | refine And.intro ?_ ?_
    · have hge : ¬ i < l.length := by have := of_decide_eq_false hcc; omega
      rw [List.take_of_length_le (by omega)] at hE
      have g0 := heap_last h (AObj.map es clk)
      have hsame := Same.more h [AObj.map es clk]
      generalize h ++ [AObj.map es clk] = hh at g0 hsame ⊢
      simp -dsimp only [Vm.G, List.lookup, Nat.reduceAdd, Nat.reduceBEq, Int.reduceBNe, Int.reduceBEq, Nat.reduceLeDiff, q26]
      refine range_intro mt147 es clk g0 ?_
      simp -dsimp only [Vm.G, List.lookup, Nat.reduceAdd, Nat.reduceBEq, Int.reduceBNe, Int.reduceBEq, Nat.reduceLeDiff, q26]
      refine awp_loop (fun m s h' => ∃ done : List Ent, m = (leftE es (done.map (·.born))).length ∧ done.length + m ≤ es.length ∧ h' = hh ∧ (∀ d ∈ done, d ∈ es) ∧ (done.map (·.born)).Nodup ∧ s = mk [(6, .own true 45 4 (((done).map lnE).map lnAv)), (25, .iter h.length clk ((done).map (·.born)) clk)])
        es.length _ (le_mk _ ?_) ⟨[], (congrArg List.length (List.filter_eq_self.2 fun _ _ => rfl)).symm, by simp, rfl, by simp, by simp, rfl⟩ ?_
      · simp only [List.forall_mem_cons, List.not_mem_nil, false_imp_iff, implies_true, and_true]
        try simp -dsimp only [Vm.G, List.lookup, Nat.reduceAdd, Nat.reduceBEq, Int.reduceBNe, Int.reduceBEq, Nat.reduceLeDiff, q26]
        repeat' first | exact Fg.refl _ | exact Fg.nil _ _ _ (by decide) | refine And.intro ?_ ?_
      · clear hi hcc hge
        rintro m s h' ⟨done, rfl, hlen, rfl, hd, hdn, rfl⟩
        simp -dsimp only [Vm.G, List.lookup, Nat.reduceAdd, Nat.reduceBEq, Int.reduceBNe, Int.reduceBEq, Nat.reduceLeDiff, q26]
        refine next_intro es clk g0 (fun e he => hE.2.1.2 e he) (Nat.le_refl _) (fun hlf => ?_) (fun e he => ?_)
        · have hD : done.Perm es := seen_all hE.2.1.1.1 hd hdn hlf
          have hnd := hE.nodup hD
          have hel := hE.2.2.1
          have hdl := hD.length_eq
          simp -dsimp only [Vm.G, List.lookup, Nat.reduceAdd, Nat.reduceBEq, Int.reduceBNe, Int.reduceBEq, Nat.reduceLeDiff, q26]
          refine call_in _ _ _ ?_
          simp -dsimp only [Vm.G, List.lookup, Nat.reduceAdd, Nat.reduceBEq, Int.reduceBNe, Int.reduceBEq, Nat.reduceLeDiff, q26, callI_eq, ownSl_own, ownSl_alias]
          refine callI_tup (S := orS sortLnSpec sortLnNilSpec) (fun xs' => ∃ l' : List Ln, xs' = l'.map lnAv ∧ l'.Perm (done.map lnE) ∧ l'.Pairwise (fun a b => cmpI a.fund b.fund < 0)) rfl
            (fun xs' hx => ?_) (fun hx => ⟨?_, fun Q' hq' => .inr ⟨_, rfl, hq'⟩⟩) (fun c hc Q' hq' => .inl ⟨done.map lnE, _, c, 45, by rw [List.length_map], rfl, hnd, by rw [List.length_map]; omega, by rw [List.length_map] at hc; exact hc, fun l' hp hs => hq' _ _ ⟨l', rfl, hp, hs⟩ ?_⟩) (fun xs' hx => ?_)
          · obtain ⟨l', rfl, hp, hs⟩ := hx
            exact ⟨fun x hx => (hp.map lnAv).mem_iff.1 hx, by rw [List.length_map, List.length_map, hp.length_eq]⟩
          · have hnil : done.map lnE = [] := List.map_eq_nil_iff.1 hx
            exact ⟨[], rfl, by rw [hnil], .nil⟩
          · rw [List.take_of_length_le]
            rw [flat_length (sz := 4) (fun x hx => by obtain ⟨p, -, rfl⟩ := List.mem_map.1 hx; rfl)]
            exact Nat.le_refl _
          · obtain ⟨l', rfl, hp, hs⟩ := hx
            simp -dsimp only [Vm.G, List.lookup, Nat.reduceAdd, Nat.reduceBEq, Int.reduceBNe, Int.reduceBEq, Nat.reduceLeDiff, q26]
            exact hq l' _ (hE.funds hD hp hs) hsame
        · obtain ⟨hem, heb⟩ := left_mem he
          obtain ⟨hk, hv, hex⟩ := hE.val hem
          obtain ⟨hd2, hdn2⟩ := done_more he hd hdn
          have hless := left_less he
          have emap : (done ++ [e]).map (·.born) = done.map (·.born) ++ [e.born] := by simp
          have hln : lnE e = ⟨nOf e, 0, 0, sumF l (nOf e)⟩ := by unfold lnE mOf; rw [hv]
          have hlnn := hE.2.2.1
          simp -dsimp only [Vm.G, List.lookup, Nat.reduceAdd, Nat.reduceBEq, Int.reduceBNe, Int.reduceBEq, Nat.reduceLeDiff, q26]
          refine entry_intro es clk e g0 (find_born hE.2.1.1.1 hem) ?_
          simp only [hk, hv, intK]
          simp -dsimp only [Vm.G, List.lookup, Nat.reduceAdd, Nat.reduceBEq, Int.reduceBNe, Int.reduceBEq, Nat.reduceLeDiff, q26]
          refine bs_intro zr45 (by decide) (by decide) rfl rfl (by simp [solid, AV.cells]) ?_
          simp -dsimp only [Vm.G, List.lookup, Nat.reduceAdd, Nat.reduceBEq, Int.reduceBNe, Int.reduceBEq, Nat.reduceLeDiff, q26]
          refine app_sl Tryz.underlying36 (by simp [AV.cells]) (by simp only [List.length_map, List.length_cons, List.length_nil]; omega) ?_
          simp -dsimp only [Vm.G, List.lookup, Nat.reduceAdd, Nat.reduceBEq, Int.reduceBNe, Int.reduceBEq, Nat.reduceLeDiff, q26]
          refine kept_intro ⟨_, hless, _, le_mk [(6, .own true 45 4 (((done ++ [e]).map lnE).map lnAv)), (25, .iter h.length clk ((done ++ [e]).map (·.born)) clk)] ?_, done ++ [e], by rw [emap], by rw [List.length_append]; simp only [List.length_cons, List.length_nil]; omega, rfl, hd2, hdn2, rfl⟩
          simp only [List.forall_mem_cons, List.not_mem_nil, false_imp_iff, implies_true, and_true, List.map_append, List.map_cons, List.map_nil, hln, lnAv, lnCells]
          try simp -dsimp only [Vm.G, List.lookup, Nat.reduceAdd, Nat.reduceBEq, Int.reduceBNe, Int.reduceBEq, Nat.reduceLeDiff, q26, List.map_append, List.map_cons, List.map_nil, hln, lnAv, lnCells]
          repeat' first | exact Fg.refl _ | exact Fg.nil _ _ _ (by decide) | refine And.intro ?_ ?_
def eqFundsOSpec : Vm.Spec := fun args h Q => ∃ (l : List Ln) (id c : Nat), l.length ≤ 1073741824 ∧ args = [.osl id 0 l.length c] ∧ lnRow h id l ∧ ∀ r h', IsFunds l r → Same h h' [] → Q (.v (.bool (!r.any lineNz))) h'
theorem does_eqFundsO : Does Tryz.prog 28 eqFundsOSpec := by
  refine does_of_awp (good_cons does_fundsO (good_cons (does_hasLn good_nzT) good_nil)) Tryz.func28 rfl (by decide +kernel) (by decide +kernel) ?_
  rintro args h Q ⟨l, id, c, hl, rfl, hr, hq⟩
  refine ⟨by simp [Tryz.f28], ?_⟩
  rw [awpFunc_some (by rfl)]
  simp -dsimp only [Vm.G, List.lookup, Nat.reduceAdd, Nat.reduceBEq, Int.reduceBNe, Int.reduceBEq, Nat.reduceLeDiff, q28]
  refine call_one (S := fundsOSpec) rfl _ GaL.rfl ⟨l, id, c, hl, rfl, hr, fun r h1 hf hs => ?_⟩
  have hrl := hf.len
  simp -dsimp only [Vm.G, List.lookup, Nat.reduceAdd, Nat.reduceBEq, Int.reduceBNe, Int.reduceBEq, Nat.reduceLeDiff, q28]
  refine call_one (S := hasSpecLn nzT) rfl _ GaL.rfl ⟨103, lineNz, r, rfl, by omega, rfl, ?_⟩
  simp -dsimp only [Vm.G, List.lookup, Nat.reduceAdd, Nat.reduceBEq, Int.reduceBNe, Int.reduceBEq, Nat.reduceLeDiff, q28]
  exact hq r h1 hf hs
def lCheckOSpec : Vm.Spec := fun args h Q => ∃ (V : VId) (f : Fun) (l : List Ln) (id c : Nat), l.length ≤ 1073741824 ∧ args = [.ptr V.iv 0, .osl id 0 l.length c] ∧ lnRow h id l ∧ isView h V f ∧ Q (.v (.int .i64 (checkL f l))) h
set_option maxRecDepth 20000 in
set_option maxHeartbeats 2000000 in
theorem does_lCheckO : Does Tryz.prog 23 lCheckOSpec := by
  refine does_of_awp (good_cons does_rightL (good_cons does_cFund (good_cons does_cObj good_nil))) Tryz.func23 rfl (by decide +kernel) (by decide +kernel) ?_
  rintro args h Q ⟨V, f, l, id, c, hl, rfl, ⟨re, rm, hh⟩, hV, hq⟩
  refine ⟨by simp [Tryz.f23], ?_⟩
  rw [awpFunc_some (by rfl)]
  unfold checkL at hq
  simp -dsimp only [Vm.G, List.lookup, Nat.reduceAdd, Nat.reduceBEq, Int.reduceBNe, Int.reduceBEq, Nat.reduceLeDiff, q23]
  cases c1 : decide ((l.length : Int) < 2)
  · have d1 := of_decide_eq_false c1
    simp -dsimp only [Vm.G, List.lookup, Nat.reduceAdd, Nat.reduceBEq, Int.reduceBNe, Int.reduceBEq, Nat.reduceLeDiff, q23, c1]
    cases c2 : decide ((l.length : Int) > 6)
    · have d2 := of_decide_eq_false c2
      rw [if_neg (by omega)] at hq
      simp -dsimp only [Vm.G, List.lookup, Nat.reduceAdd, Nat.reduceBEq, Int.reduceBNe, Int.reduceBEq, Nat.reduceLeDiff, q23, c2]
      refine awp_loop (fun m s h' => ∃ i : Nat, i + m = l.length ∧ h' = h ∧ (∀ j (hj : j < l.length), j < i → rightL l[j] = true) ∧ s = mk [(0, .ptr V.iv 0), (1, .osl id 0 l.length c), (5, .v (.int .i64 (sumA (l.take (i))))), (20, .osl id 0 l.length c), (21, .v (.int .i64 l.length)), (22, .v (.int .i64 (i : Nat)))])
        l.length _ (le_mk _ ?_) ⟨0, by omega, rfl, fun _ _ hj => by omega, rfl⟩ ?_
      · simp only [List.forall_mem_cons, List.not_mem_nil, false_imp_iff, implies_true, and_true]
        try simp -dsimp only [Vm.G, List.lookup, Nat.reduceAdd, Nat.reduceBEq, Int.reduceBNe, Int.reduceBEq, Nat.reduceLeDiff, q23]
        repeat' first | exact Fg.refl _ | exact Fg.nil _ _ _ (by decide) | refine And.intro ?_ ?_
      · clear c1 c2
        rintro m s h' ⟨i, hi, rfl, hb, rfl⟩
        simp -dsimp only [Vm.G, List.lookup, Nat.reduceAdd, Nat.reduceBEq, Int.reduceBNe, Int.reduceBEq, Nat.reduceLeDiff, q23]
        refine cond_intro (fun hcc => ?_) (fun hcc => ?_)
        · have hlt : i < l.length := by have := of_decide_eq_true hcc; omega
          have hw : IntKind.i64.wrap ((i : Int) + 1) = ((i + 1 : Nat) : Int) := by rw [wrap_i64 (by omega) (by omega)]; simp
          have hst := sumA_step l i hlt
          have hno := all_no (p := rightL) i hlt
          have hyes := yes_more hb hlt
          have hxe : ∃ x, l[i] = x := ⟨_, rfl⟩
          rcases hxe with ⟨x, hx⟩
          rw [hx] at hst hno hyes
          simp -dsimp only [Vm.G, List.lookup, Nat.reduceAdd, Nat.reduceBEq, Int.reduceBNe, Int.reduceBEq, Nat.reduceLeDiff, q23]
          have hre := ln_elem l i hlt
          rcases hre with ⟨r1, r2⟩
          rw [hx] at r1
          simp only [lnCells] at r1
          refine idxL_intro (by omega) (by omega) ?_
          simp -dsimp only [Vm.G, List.lookup, Nat.reduceAdd, Nat.reduceBEq, Int.reduceBNe, Int.reduceBEq, Nat.reduceLeDiff, q23, hh, Int.toNat_natCast, r1, r2]
          refine call_one (S := askLn rightL) rfl _ GaL.rfl ⟨x, rfl, ?_⟩
          have hd := (Bool.eq_false_or_eq_true (rightL x)).symm
          rcases hd with c3 | c3
          · rw [if_pos (hno c3)] at hq
            simp -dsimp only [Vm.G, List.lookup, Nat.reduceAdd, Nat.reduceBEq, Int.reduceBNe, Int.reduceBEq, Nat.reduceLeDiff, q23, c3]
            exact hq
          · simp -dsimp only [Vm.G, List.lookup, Nat.reduceAdd, Nat.reduceBEq, Int.reduceBNe, Int.reduceBEq, Nat.reduceLeDiff, q23, c3]
            refine kept_intro ⟨l.length - (i + 1), by omega, _, le_mk [(0, .ptr V.iv 0), (1, .osl id 0 l.length c), (5, .v (.int .i64 (sumA (l.take (i + 1))))), (20, .osl id 0 l.length c), (21, .v (.int .i64 l.length)), (22, .v (.int .i64 (i + 1 : Nat)))] ?_, i + 1, by omega, rfl, hyes c3, rfl⟩
            simp only [List.forall_mem_cons, List.not_mem_nil, false_imp_iff, implies_true, and_true, hw, hst]
            try simp -dsimp only [Vm.G, List.lookup, Nat.reduceAdd, Nat.reduceBEq, Int.reduceBNe, Int.reduceBEq, Nat.reduceLeDiff, q23, hw, hst]
            repeat' first | exact Fg.refl _ | exact Fg.nil _ _ _ (by decide) | refine And.intro ?_ ?_
        · have hge : ¬ i < l.length := by have := of_decide_eq_false hcc; omega
          rw [if_neg (by rw [all_yes fun j hj => hb j hj (by omega)]; decide)] at hq
          simp -dsimp only [Vm.G, List.lookup, Nat.reduceAdd, Nat.reduceBEq, Int.reduceBNe, Int.reduceBEq, Nat.reduceLeDiff, q23]
          rw [List.take_of_length_le (by omega)]
          refine awp_loop (fun m s h2 => ∃ i : Nat, i + m = l.length ∧ h2 = h' ∧ (∀ j (hj : j < l.length), j < i → knownL f l[j] = true) ∧ s = mk [(0, .ptr V.iv 0), (5, .v (.int .i64 (sumA l))), (34, .osl id 0 l.length c), (35, .v (.int .i64 l.length)), (36, .v (.int .i64 (i : Nat)))])
            l.length _ (le_mk _ ?_) ⟨0, by omega, rfl, fun _ _ hj => by omega, rfl⟩ ?_
          · simp only [List.forall_mem_cons, List.not_mem_nil, false_imp_iff, implies_true, and_true]
            try simp -dsimp only [Vm.G, List.lookup, Nat.reduceAdd, Nat.reduceBEq, Int.reduceBNe, Int.reduceBEq, Nat.reduceLeDiff, q23]
            repeat' first | exact Fg.refl _ | exact Fg.nil _ _ _ (by decide) | refine And.intro ?_ ?_
          · clear hi hcc hge hb
            rintro m s h2 ⟨i, hi, rfl, hb, rfl⟩
            simp -dsimp only [Vm.G, List.lookup, Nat.reduceAdd, Nat.reduceBEq, Int.reduceBNe, Int.reduceBEq, Nat.reduceLeDiff, q23]
            refine cond_intro (fun hcc => ?_) (fun hcc => ?_)
            · have hlt : i < l.length := by have := of_decide_eq_true hcc; omega
              have hw : IntKind.i64.wrap ((i : Int) + 1) = ((i + 1 : Nat) : Int) := by rw [wrap_i64 (by omega) (by omega)]; simp
              have hno := all_no (p := knownL f) i hlt
              have hyes := yes_more hb hlt
              have hxe : ∃ x, l[i] = x := ⟨_, rfl⟩
              rcases hxe with ⟨x, hx⟩
              rw [hx] at hno hyes
              have hkd : knownL f x = ((f (fundK x.fund)).isSome && objOk f x.obj) := rfl
              simp -dsimp only [Vm.G, List.lookup, Nat.reduceAdd, Nat.reduceBEq, Int.reduceBNe, Int.reduceBEq, Nat.reduceLeDiff, q23]
              have hre := ln_elem l i hlt
              rcases hre with ⟨r1, r2⟩
              rw [hx] at r1
              simp only [lnCells] at r1
              refine idxL_intro (by omega) (by omega) ?_
              simp -dsimp only [Vm.G, List.lookup, Nat.reduceAdd, Nat.reduceBEq, Int.reduceBNe, Int.reduceBEq, Nat.reduceLeDiff, q23, hh, Int.toNat_natCast, r1, r2]
              refine call_one (S := cFundSpec) rfl _ GaL.rfl ⟨V, f, x.fund, rfl, hV, fun q hf => ?_, fun hf => ?_⟩
              · rw [hf] at hkd
                simp -dsimp only [Vm.G, List.lookup, Nat.reduceAdd, Nat.reduceBEq, Int.reduceBNe, Int.reduceBEq, Nat.reduceLeDiff, q23]
                refine call_one (S := cObjSpec) rfl _ GaL.rfl ⟨V, f, x.obj, rfl, hV, ?_⟩
                have hd := (Bool.eq_false_or_eq_true (objOk f x.obj)).symm
                rcases hd with c4 | c4
                · rw [if_pos (hno (by rw [hkd, c4]; rfl))] at hq
                  simp -dsimp only [Vm.G, List.lookup, Nat.reduceAdd, Nat.reduceBEq, Int.reduceBNe, Int.reduceBEq, Nat.reduceLeDiff, q23, c4]
                  exact hq
                · have hk : knownL f x = true := by rw [hkd, c4]; rfl
                  simp -dsimp only [Vm.G, List.lookup, Nat.reduceAdd, Nat.reduceBEq, Int.reduceBNe, Int.reduceBEq, Nat.reduceLeDiff, q23, c4]
                  refine kept_intro ⟨l.length - (i + 1), by omega, _, le_mk [(0, .ptr V.iv 0), (5, .v (.int .i64 (sumA l))), (34, .osl id 0 l.length c), (35, .v (.int .i64 l.length)), (36, .v (.int .i64 (i + 1 : Nat)))] ?_, i + 1, by omega, rfl, hyes hk, rfl⟩
                  simp only [List.forall_mem_cons, List.not_mem_nil, false_imp_iff, implies_true, and_true, hw]
                  try simp -dsimp only [Vm.G, List.lookup, Nat.reduceAdd, Nat.reduceBEq, Int.reduceBNe, Int.reduceBEq, Nat.reduceLeDiff, q23, hw]
                  repeat' first | exact Fg.refl _ | exact Fg.nil _ _ _ (by decide) | refine And.intro ?_ ?_
              · rw [hf] at hkd
                rw [if_pos (hno (by rw [hkd]; rfl))] at hq
                simp -dsimp only [Vm.G, List.lookup, Nat.reduceAdd, Nat.reduceBEq, Int.reduceBNe, Int.reduceBEq, Nat.reduceLeDiff, q23]
                exact hq
            · have hge : ¬ i < l.length := by have := of_decide_eq_false hcc; omega
              rw [if_neg (by rw [all_yes fun j hj => hb j hj (by omega)]; decide)] at hq
              have hd := (Bool.eq_false_or_eq_true (sumA l != 0)).symm
              rcases hd with c5 | c5
              · rw [if_neg (by simpa using c5)] at hq
                simp -dsimp only [Vm.G, List.lookup, Nat.reduceAdd, Nat.reduceBEq, Int.reduceBNe, Int.reduceBEq, Nat.reduceLeDiff, q23, c5]
                exact hq
              · rw [if_pos (by simpa using c5)] at hq
                simp -dsimp only [Vm.G, List.lookup, Nat.reduceAdd, Nat.reduceBEq, Int.reduceBNe, Int.reduceBEq, Nat.reduceLeDiff, q23, c5]
                exact hq
    · have d2 := of_decide_eq_true c2
      rw [if_pos (by omega)] at hq
      simp -dsimp only [Vm.G, List.lookup, Nat.reduceAdd, Nat.reduceBEq, Int.reduceBNe, Int.reduceBEq, Nat.reduceLeDiff, q23, c2]
      exact hq
  · have d1 := of_decide_eq_true c1
    rw [if_pos (by omega)] at hq
    simp -dsimp only [Vm.G, List.lookup, Nat.reduceAdd, Nat.reduceBEq, Int.reduceBNe, Int.reduceBEq, Nat.reduceLeDiff, q23, c1]
    exact hq
end Go.Proofs.Lx
/- The law TreeTells. -/
set_option linter.unusedSimpArgs false
set_option linter.unusedVariables false
namespace Go.Proofs.Lx
open Go.Vm
attribute [local irreducible] awpArr awpBin awpMake awpAppend awpCvX awpStrOf awpBinX awpSlice awpBS awpStore awpAlloc awpCopy awpIndex awpDraw awpIdxX awpFa awpField awpLookup awpUpdate awpDelete awpClear awpRange awpNext awpEntry awpBuild awpClearS awpIdxL awpTree appB awpIdxO eltA treeA
end Go.Proofs.Lx
/- The law LinesCheck. -/
set_option linter.unusedSimpArgs false
set_option linter.unusedVariables false
namespace Go.Proofs.Lx
open Go.Vm
attribute [local irreducible] awpArr awpBin awpMake awpAppend awpCvX awpStrOf awpBinX awpSlice awpBS awpStore awpAlloc awpCopy awpIndex awpDraw awpIdxX awpFa awpField awpLookup awpUpdate awpDelete awpClear awpRange awpNext awpEntry awpBuild awpClearS awpIdxL awpTree appB awpIdxO eltA treeA
def lfA : Fun := upd noF (fundK 100) (some [97])
theorem lf_new : newFund noF 100 [97] = (lfA, 0) := by
  unfold newFund
  rw [if_pos ⟨by decide, by decide⟩, if_neg (by intro h; exact h rfl), if_neg ?_]
  · rfl
  · rintro ⟨l, hl, hn⟩
    have : l = [] := by
      cases l with
      | nil => rfl
      | cons p r => have := ((hl.2 p.1 p.2).1 (List.mem_cons_self ..)).1; cases this
    subst this
    simp at hn
def lnA : Ln := ⟨100, 1010, 0, 5⟩
def lnB : Ln := ⟨100, 3000, 0, -5⟩
def lnC : Ln := ⟨100, 3000, 0, -4⟩
theorem ln_chk1 : checkL lfA [lnA, lnB] = 0 := by decide +kernel
theorem ln_chk2 : checkL lfA [lnA, lnC] = 10 := by decide +kernel
theorem one_fund {x y : Ln} {a : Int} (hx : x.fund = 100) (hy : y.fund = 100) (h : sumF [x, y] 100 = a) : IsFunds [x, y] [⟨100, 0, 0, a⟩] := ⟨by simp, fun z => ⟨fun hz => by
    rw [List.mem_singleton] at hz; subst hz
    exact ⟨⟨x, by simp, hx⟩, by show (⟨100, 0, 0, a⟩ : Ln) = ⟨100, 0, 0, sumF [x, y] 100⟩; rw [h]⟩, fun ⟨⟨w, hw, e⟩, hz⟩ => by
    have hf : z.fund = 100 := by
      simp only [List.mem_cons, List.not_mem_nil, or_false] at hw
      rcases hw with rfl | rfl
      · rw [← e]; exact hx
      · rw [← e]; exact hy
    rw [hf, h] at hz
    rw [hz]
    exact List.mem_singleton.2 rfl⟩⟩
theorem ln_fun1 : IsFunds [lnA, lnB] [⟨100, 0, 0, 0⟩] := one_fund rfl rfl (by decide +kernel)
theorem ln_fun2 : IsFunds [lnA, lnC] [⟨100, 0, 0, 1⟩] := one_fund rfl rfl (by decide +kernel)
set_option maxRecDepth 20000 in
set_option maxHeartbeats 2000000 in
theorem does_law23awake : Does Tryz.prog 20 trueSpec := by
  refine does_of_awp (good_cons does_vnewA (good_cons does_cNew (good_cons does_lCheckO (good_cons does_eqFundsO good_nil)))) Tryz.func20 rfl (by decide +kernel) (by decide +kernel) ?_
  rintro args h Q ⟨rfl, hq⟩
  refine ⟨by simp [Tryz.f20], ?_⟩
  rw [awpFunc_some (by rfl)]
  simp -dsimp only [Vm.G, List.lookup, Nat.reduceAdd, Nat.reduceBEq, Int.reduceBNe, Int.reduceBEq, Nat.reduceLeDiff, q20]
  refine call_one (S := vnewASpec) rfl _ GaL.rfl ⟨rfl, fun V h0 hV => ?_⟩
  simp -dsimp only [Vm.G, List.lookup, Nat.reduceAdd, Nat.reduceBEq, Int.reduceBNe, Int.reduceBEq, Nat.reduceLeDiff, q20]
  refine nil_pointer Tryz.underlying24 ?_
  simp -dsimp only [Vm.G, List.lookup, Nat.reduceAdd, Nat.reduceBEq, Int.reduceBNe, Int.reduceBEq, Nat.reduceLeDiff, q20]
  refine call_one (S := cNewSpec) rfl _ GaL.rfl ⟨V, noF, 100, [97], by simp, rfl, hV, by decide, fun h1 hV1 _ => ?_⟩
  rw [lf_new] at hV1 ⊢
  simp only at hV1 ⊢
  simp -dsimp only [Vm.G, List.lookup, Nat.reduceAdd, Nat.reduceBEq, Int.reduceBNe, Int.reduceBEq, Nat.reduceLeDiff, q20]
  refine bs_intro zr45 (by decide) (by decide) rfl rfl (by simp [solid, AV.cells]) ?_
  simp -dsimp only [Vm.G, List.lookup, Nat.reduceAdd, Nat.reduceBEq, Int.reduceBNe, Int.reduceBEq, Nat.reduceLeDiff, q20]
  refine call_row _ _ _ 2 16 (.inr rfl) rfl (by simp) fun c hc1 hc2 => ?_
  simp -dsimp only [Vm.G, List.lookup, Nat.reduceAdd, Nat.reduceBEq, Int.reduceBNe, Int.reduceBEq, Nat.reduceLeDiff, q20]
  have hids : ∀ i ∈ [V.iv, V.ic, V.im], i ∉ [h1.length] := by
    obtain ⟨_, _, _, _, k1, k2, k3, _⟩ := hV1
    have l1 := get_lt k1
    have l2 := get_lt k2
    have l3 := get_lt k3
    intro i hi hm
    simp only [List.mem_cons, List.not_mem_nil, or_false] at hi hm
    omega
  have hF1 : ∃ F, flat ([lnA, lnB].map lnAv) = F := ⟨_, rfl⟩
  have hF2 : ∃ F, flat ([lnA, lnC].map lnAv) = F := ⟨_, rfl⟩
  have ep : putCells (flat ([lnA, lnB].map lnAv)) 7 [.v (.int .i64 (-4))] = flat ([lnA, lnC].map lnAv) := rfl
  have el : (flat ([lnA, lnB].map lnAv)).length = 8 := rfl
  rcases hF1 with ⟨F1, hF1⟩
  rcases hF2 with ⟨F2, hF2⟩
  have g0 := heap_last h1 (AObj.row 45 (c * 4) (flat ([lnA, lnB].map lnAv)))
  have hV2 := hV1.more [AObj.row 45 (c * 4) (flat ([lnA, lnB].map lnAv))]
  show callC _ _ _ _ (h1 ++ [AObj.row 45 (c * 4) (flat ([lnA, lnB].map lnAv))]) _ _
  rw [hF1] at g0 hV2 ep el ⊢
  rw [hF2] at ep
  generalize h1 ++ [AObj.row 45 (c * 4) F1] = h2 at g0 hV2 ⊢
  generalize h1.length = id at g0 hids ⊢
  clear hc1 hV1 hV
  refine call_one (S := lCheckOSpec) rfl _ GaL.rfl ⟨V, lfA, [lnA, lnB], id, c, by simp, rfl, ⟨_, _, by rw [hF1]; exact g0⟩, hV2, ?_⟩
  rw [ln_chk1]
  simp -dsimp only [Vm.G, List.lookup, Nat.reduceAdd, Nat.reduceBEq, Int.reduceBNe, Int.reduceBEq, Nat.reduceLeDiff, q20]
  refine call_one (S := eqFundsOSpec) rfl _ GaL.rfl ⟨[lnA, lnB], id, c, by simp, rfl, ⟨_, _, by rw [hF1]; exact g0⟩, fun r h3 hr hs3 => ?_⟩
  have hr := funds_same hr ln_fun1
  subst hr
  have hV3 := hV2.same hs3 (by simp)
  have g3 := hs3.get g0 (by simp)
  have z : (!([⟨100, 0, 0, 0⟩] : List Ln).any lineNz) = true := by decide
  rw [z]
  clear hr hs3 g0 hV2
  simp -dsimp only [Vm.G, List.lookup, Nat.reduceAdd, Nat.reduceBEq, Int.reduceBNe, Int.reduceBEq, Nat.reduceLeDiff, q20]
  refine idxL_intro (by decide) (by decide) ?_
  simp -dsimp only [Vm.E, List.lookup, Nat.reduceAdd, Nat.reduceBEq, Int.reduceBNe, Int.reduceBEq, Bool.true_beq, Bool.false_beq, q20, Int.toNat_one, Nat.one_mul]
  refine store_row _ g3 ?_ ?_ ?_ ?_
  · rfl
  · rfl
  · rw [el]; decide
  have g4 : (h3.set id (.row 45 (c * 4) F2))[id]? = some (.row 45 (c * 4) F2) := List.getElem?_set_self (get_lt g3)
  have hV4 := hV3.same (Same.set h3 id (.row 45 (c * 4) F2)) hids
  simp -dsimp only [Vm.G, List.lookup, Nat.reduceAdd, Nat.reduceBEq, Int.reduceBNe, Int.reduceBEq, Nat.reduceLeDiff, q20, ep, AV.cells]
  generalize h3.set id (.row 45 (c * 4) F2) = h4 at g4 hV4 ⊢
  refine call_one (S := lCheckOSpec) rfl _ GaL.rfl ⟨V, lfA, [lnA, lnC], id, c, by simp, rfl, ⟨_, _, by rw [hF2]; exact g4⟩, hV4, ?_⟩
  rw [ln_chk2]
  simp -dsimp only [Vm.G, List.lookup, Nat.reduceAdd, Nat.reduceBEq, Int.reduceBNe, Int.reduceBEq, Nat.reduceLeDiff, q20]
  refine call_one (S := eqFundsOSpec) rfl _ GaL.rfl ⟨[lnA, lnC], id, c, by simp, rfl, ⟨_, _, by rw [hF2]; exact g4⟩, fun r h5 hr hs5 => ?_⟩
  have hr := funds_same hr ln_fun2
  subst hr
  have z : (!([⟨100, 0, 0, 1⟩] : List Ln).any lineNz) = false := by decide
  rw [z]
  simp -dsimp only [Vm.G, List.lookup, Nat.reduceAdd, Nat.reduceBEq, Int.reduceBNe, Int.reduceBEq, Nat.reduceLeDiff, q20]
  exact hq _
def plLinesSpec : Vm.Spec := fun args h Q => ∃ l : List Ln, args = [.sl 4 (l.map lnAv)] ∧ Q (.v (.bool (decide ((l.length : Int) ≤ 30)))) h
theorem does_plLines : Does Tryz.prog 19 plLinesSpec := by
  refine does_of_awp good_nil Tryz.func19 rfl (by decide +kernel) (by decide +kernel) ?_
  rintro args h Q ⟨l, rfl, hq⟩
  refine ⟨by simp [Tryz.f19], ?_⟩
  rw [awpFunc_some (by rfl)]
  simp -dsimp only [Vm.G, List.lookup, Nat.reduceAdd, Nat.reduceBEq, Int.reduceBNe, Int.reduceBEq, Nat.reduceLeDiff, q19]
  exact hq
theorem isA_lnq {y : AV} (h : IsA (.agg [.int .i64, .int .i64, .int .i64, .int .i64]) y) : ∃ x : Ln, x.ok ∧ y = lnAv x := by
  simp only [IsA, IsAll] at h
  obtain ⟨ys, ⟨y1, r1, rfl, h1, y2, r2, rfl, h2, y3, r3, rfl, h3, y4, r4, rfl, h4, rfl⟩, rfl⟩ := h
  obtain ⟨a1, k1, rfl⟩ := isA_int (by simpa only [IsA] using h1)
  obtain ⟨a2, k2, rfl⟩ := isA_int (by simpa only [IsA] using h2)
  obtain ⟨a3, k3, rfl⟩ := isA_int (by simpa only [IsA] using h3)
  obtain ⟨a4, k4, rfl⟩ := isA_int (by simpa only [IsA] using h4)
  exact ⟨⟨a1, a2, a3, a4⟩, ⟨k1, k2, k3, k4⟩, rfl⟩
end Go.Proofs.Lx
/- The law PreOpen. -/
set_option linter.unusedSimpArgs false
set_option linter.unusedVariables false
namespace Go.Proofs.Lx
open Go.Vm
attribute [local irreducible] awpArr awpBin awpMake awpAppend awpCvX awpStrOf awpBinX awpSlice awpBS awpStore awpAlloc awpCopy awpIndex awpDraw awpIdxX awpFa awpField awpLookup awpUpdate awpDelete awpClear awpRange awpNext awpEntry awpBuild awpClearS awpIdxL awpTree appB awpIdxO eltA treeA
theorem isA_un {k : IntKind} {x : AV} (h : IsA (.int k) x) : ∃ n : Int, k.min ≤ n ∧ n ≤ k.max ∧ x = .v (.int k n) := by
  simp only [IsA] at h
  obtain ⟨n, hn, rfl⟩ := h
  simp only [Lit.wf, Bool.and_eq_true, decide_eq_true_eq] at hn
  exact ⟨n, hn.1, hn.2, rfl⟩
end Go.Proofs.Lx
/- The law LinesOrder. -/
set_option linter.unusedSimpArgs false
set_option linter.unusedVariables false
namespace Go.Proofs.Lx
open Go.Vm
attribute [local irreducible] awpArr awpBin awpMake awpAppend awpCvX awpStrOf awpBinX awpSlice awpBS awpStore awpAlloc awpCopy awpIndex awpDraw awpIdxX awpFa awpField awpLookup awpUpdate awpDelete awpClear awpRange awpNext awpEntry awpBuild awpClearS awpIdxL awpTree appB awpIdxO eltA treeA
/-- Elements of so many cells each. -/
def revSpecLn : Vm.Spec := fun args h Q => ∃ (xs : List AV) (h0 : Heap) (c e : Nat), args = [.osl h0.length 0 xs.length c] ∧ h = h0 ++ [.row e (c * 4) (flat xs)] ∧ (∀ x ∈ xs, ∃ a, x = .agg a ∧ a.length = 4) ∧ xs.length ≤ 4611686018427387904 ∧
  Q (.tup []) (h0 ++ [.row e (c * 4) (flat xs.reverse)])
set_option maxRecDepth 20000 in
set_option maxHeartbeats 1000000 in
theorem does_revLn : Does Tryz.prog 31 revSpecLn := by
  refine does_of_awp good_nil Tryz.func31 rfl (by decide +kernel) (by decide +kernel) ?_
  rintro args h Q ⟨xs, h0, c, e, rfl, rfl, hu, hl, hq⟩
  refine ⟨by simp [Tryz.f31], ?_⟩
  rw [awpFunc_some (by rfl)]
  have hu2 : ∀ x ∈ xs, x.cells.length = 4 := fun x hx => by obtain ⟨a, rfl, ha⟩ := hu x hx; exact ha
  have hwn : IntKind.i64.wrap ((xs.length : Int) - 1) = (xs.length : Int) - 1 - ((0 : Nat) : Int) := by rw [wrap_i64 (by omega) (by omega)]; omega
  simp -dsimp only [Vm.G, List.lookup, Nat.reduceAdd, Nat.reduceBEq, Int.reduceBNe, Int.reduceBEq, Nat.reduceLeDiff, q31, hwn]
  refine awp_loop (fun m s h' => ∃ (i : Nat) (ys : List AV), i + m = xs.length ∧ ys.length = xs.length ∧ (∀ x ∈ ys, ∃ a, x = .agg a ∧ a.length = 4) ∧ (∀ k, k < xs.length → ys[k]? = if k < i ∨ xs.length ≤ k + i then xs[xs.length - 1 - k]? else xs[k]?) ∧ h' = h0 ++ [.row e (c * 4) (flat ys)] ∧
      s = mk [(0, .osl h0.length 0 xs.length c), (2, .v (.int .i64 i)), (3, .v (.int .i64 ((xs.length : Int) - 1 - i)))])
    xs.length _ (le_mk _ ?_) ⟨0, xs, by omega, rfl, hu, fun k hk => by rw [if_neg (by omega)], rfl, rfl⟩ ?_
  · simp only [List.forall_mem_cons, List.not_mem_nil, false_imp_iff, implies_true, and_true]
    try simp -dsimp only [Vm.G, List.lookup, Nat.reduceAdd, Nat.reduceBEq, Int.reduceBNe, Int.reduceBEq, Nat.reduceLeDiff, q31]
    repeat' first | exact Fg.refl _ | exact Fg.nil _ _ _ (by decide) | refine And.intro ?_ ?_
  · rintro m s h' ⟨i, ys, hi, hyl, hyu, hyk, rfl, rfl⟩
    simp -dsimp only [Vm.G, List.lookup, Nat.reduceAdd, Nat.reduceBEq, Int.reduceBNe, Int.reduceBEq, Nat.reduceLeDiff, q31]
    refine cond_intro (fun hcc => ?_) (fun hcc => ?_)
    · have hij : 2 * i + 1 < xs.length := by have := of_decide_eq_true hcc; omega
      obtain ⟨j, hj⟩ : ∃ j : Nat, j + i + 1 = xs.length := ⟨xs.length - 1 - i, by omega⟩
      have ej : (xs.length : Int) - 1 - i = (j : Nat) := by omega
      have hwi : IntKind.i64.wrap ((i : Int) + 1) = ((i + 1 : Nat) : Int) := by rw [wrap_i64 (by omega) (by omega)]; simp
      have hwj : IntKind.i64.wrap ((j : Int) - 1) = (xs.length : Int) - 1 - ((i + 1 : Nat) : Int) := by rw [wrap_i64 (by omega) (by omega)]; omega
      have hys : ∀ x ∈ ys, x.cells.length = 4 := fun x hx => by obtain ⟨a, rfl, ha⟩ := hyu x hx; exact ha
      have hfl := flat_length hys
      have hiy : i < ys.length := by omega
      have hjy : j < ys.length := by omega
      obtain ⟨a, hxa, hal⟩ := hyu ys[i] (List.getElem_mem hiy)
      obtain ⟨b, hxb, hbl⟩ := hyu ys[j] (List.getElem_mem hjy)
      obtain ⟨r1, r2⟩ := row_elem hys (cs := flat ys) (by rw [List.take_of_length_le (by omega)]) i hiy
      obtain ⟨r3, r4⟩ := row_elem hys (cs := flat ys) (by rw [List.take_of_length_le (by omega)]) j hjy
      rw [hxa] at r1
      rw [hxb] at r3
      have r1 : ((flat ys).drop (i * 4)).take 4 = a := r1
      have r3 : ((flat ys).drop (j * 4)).take 4 = b := r3
      have f1 : putCells (flat ys) (i * 4) b = flat (ys.set i (.agg b)) := flat_set (b := .agg b) hbl ys i hys hiy
      have hys2 : ∀ x ∈ ys.set i (.agg b), x.cells.length = 4 := set_mem (p := fun x : AV => x.cells.length = 4) hys hbl
      have f2 : putCells (flat (ys.set i (.agg b))) (j * 4) a = flat ((ys.set i (.agg b)).set j (.agg a)) := flat_set (b := .agg a) hal _ j hys2 (by rw [List.length_set]; exact hjy)
      have hfl2 := flat_length hys2
      rw [List.length_set] at hfl2
      rw [ej]
      simp -dsimp only [Vm.G, List.lookup, Nat.reduceAdd, Nat.reduceBEq, Int.reduceBNe, Int.reduceBEq, Nat.reduceLeDiff, q31]
      refine draw_cont [] (.take 0 (.take 1 (.take 2 (.take 3 (.take 4 (.take 5 (.take 6 (.take 8 (.take 9 (.take 10 (.alt 7 (.alt 11 (.take 12 (.alt 13 (.take 14 (.alt 15 (.done) .stop)) .stop)) .stop) (.alt 11 (.alt 7 (.take 12 (.alt 13 (.take 14 (.alt 15 (.done) .stop)) .stop)) .stop) (.stop))))))))))))) (fun s h2 => h2 = h0 ++ [.row e (c * 4) (flat ((ys.set i (.agg b)).set j (.agg a)))] ∧ s 0 = .osl h0.length 0 xs.length c ∧ s 2 = .v (.int .i64 i) ∧ s 3 = .v (.int .i64 j)) (by kernel_rfl) (by kernel_rfl) (by kernel_rfl) (by decide) ?_ ?_
      · repeat' first
          | with_reducible exact True.intro
          | simp -dsimp only [Vm.E, List.lookup, Nat.reduceAdd, Nat.reduceBEq, Int.reduceBNe, Int.reduceBEq, Bool.true_beq, Bool.false_beq, q31, Int.toNat_natCast, heap_last, heap_setLast, r1, r2, r3, r4, f1, f2]
          | refine idxL_intro (by omega) (by omega) ?_
          | refine store_row _ (heap_last _ _) rfl hbl.symm (by omega) ?_
          | refine store_row _ (heap_last _ _) rfl hal.symm (by omega) ?_
          | refine tree_alt ?_ ?_
          | simp only [heap_setLast, AV.cells, f1, f2]
      · rintro s h2 ⟨rfl, e0, e2, e3⟩
        simp -dsimp only [Vm.G, List.lookup, Nat.reduceAdd, Nat.reduceBEq, Int.reduceBNe, Int.reduceBEq, Nat.reduceLeDiff, q31, e0, e2, e3]
        refine kept_intro ⟨xs.length - (i + 1), by omega, _, le_mk [(0, .osl h0.length 0 xs.length c), (2, .v (.int .i64 (i + 1 : Nat))), (3, .v (.int .i64 ((xs.length : Int) - 1 - (i + 1 : Nat))))] ?_,
          i + 1, (ys.set i (.agg b)).set j (.agg a), by omega, by rw [List.length_set, List.length_set]; exact hyl, set_mem (p := fun x : AV => ∃ a, x = .agg a ∧ a.length = 4) (set_mem (p := fun x : AV => ∃ a, x = .agg a ∧ a.length = 4) hyu ⟨b, rfl, hbl⟩) ⟨a, rfl, hal⟩, fun k hk => ?_, rfl, rfl⟩
        · simp only [List.forall_mem_cons, List.not_mem_nil, false_imp_iff, implies_true, and_true, hwi, hwj, e0, e2, e3]
          try simp -dsimp only [Vm.G, List.lookup, Nat.reduceAdd, Nat.reduceBEq, Int.reduceBNe, Int.reduceBEq, Nat.reduceLeDiff, q31, hwi, hwj, e0, e2, e3]
          repeat' first | exact Fg.refl _ | exact Fg.nil _ _ _ (by decide) | refine And.intro ?_ ?_
        · have hki := hyk i (by omega)
          have hkj := hyk j (by omega)
          rw [if_neg (by omega), List.getElem?_eq_getElem hiy, hxa] at hki
          rw [if_neg (by omega), List.getElem?_eq_getElem hjy, hxb] at hkj
          by_cases h1 : k = j
          · subst h1
            rw [List.getElem?_set_self (by rw [List.length_set]; exact hjy), if_pos (by omega), show xs.length - 1 - k = i by omega]
            exact hki
          · rw [List.getElem?_set_ne (Ne.symm h1)]
            by_cases h2 : k = i
            · subst h2
              rw [List.getElem?_set_self hiy, if_pos (by omega), show xs.length - 1 - k = j by omega]
              exact hkj
            · rw [List.getElem?_set_ne (Ne.symm h2), hyk k hk]
              by_cases h3 : k < i ∨ xs.length ≤ k + i
              · rw [if_pos h3, if_pos (by omega)]
              · rw [if_neg h3, if_neg (by omega)]
    · have hge : ¬ 2 * i + 1 < xs.length := by have := of_decide_eq_false hcc; omega
      have er : ys = xs.reverse := by
        apply List.ext_getElem?
        intro k
        rcases Nat.lt_or_ge k xs.length with h | h
        · rw [hyk k h, List.getElem?_reverse h]
          split
          · rfl
          · have : xs.length - 1 - k = k := by omega
            rw [this]
        · rw [List.getElem?_eq_none (by omega), List.getElem?_eq_none (by rw [List.length_reverse]; omega)]
      subst er
      simp -dsimp only [Vm.G, List.lookup, Nat.reduceAdd, Nat.reduceBEq, Int.reduceBNe, Int.reduceBEq, Nat.reduceLeDiff, q31]
      exact hq
def revNilLn : Vm.Spec := fun args h Q => args = [.v (.slice none 0 0)] ∧ Q (.tup []) h
theorem does_revNilLn : Does Tryz.prog 31 revNilLn := by
  refine does_of_awp good_nil Tryz.func31 rfl (by decide +kernel) (by decide +kernel) ?_
  rintro args h Q ⟨rfl, hq⟩
  refine ⟨by simp [Tryz.f31], ?_⟩
  rw [awpFunc_some (by rfl)]
  have hwn : IntKind.i64.wrap ((0 : Int) - 1) = -1 := by decide
  simp -dsimp only [Vm.G, List.lookup, Nat.reduceAdd, Nat.reduceBEq, Int.reduceBNe, Int.reduceBEq, Nat.reduceLeDiff, q31, hwn]
  refine awp_loop (fun m s h' => h' = h ∧ s = mk [(2, .v (.int .i64 0)), (3, .v (.int .i64 (-1)))]) 0 _ (le_mk _ ?_) ⟨rfl, rfl⟩ ?_
  · simp only [List.forall_mem_cons, List.not_mem_nil, false_imp_iff, implies_true, and_true]
    try simp -dsimp only [Vm.G, List.lookup, Nat.reduceAdd, Nat.reduceBEq, Int.reduceBNe, Int.reduceBEq, Nat.reduceLeDiff, q31]
    repeat' first | exact Fg.refl _ | exact Fg.nil _ _ _ (by decide) | refine And.intro ?_ ?_
  · rintro m s h' ⟨rfl, rfl⟩
    simp -dsimp only [Vm.G, List.lookup, Nat.reduceAdd, Nat.reduceBEq, Int.reduceBNe, Int.reduceBEq, Nat.reduceLeDiff, q31]
    refine cond_intro (fun hcc => ?_) (fun hcc => ?_)
    · have := of_decide_eq_true hcc
      omega
    · simp -dsimp only [Vm.G, List.lookup, Nat.reduceAdd, Nat.reduceBEq, Int.reduceBNe, Int.reduceBEq, Nat.reduceLeDiff, q31]
      exact hq
theorem does_revSLn : Does Tryz.prog 31 (orS revSpecLn revNilLn) := does_or does_revLn does_revNilLn
def isNaNSpec : Vm.Spec := fun args h Q => ∃ a : Int, args = [.v (.int .i64 a)] ∧ Q (.v (.bool false)) h
theorem does_isNaN : Does Tryz.prog 104 isNaNSpec := by
  refine does_of_awp good_nil Tryz.func104 rfl (by decide +kernel) (by decide +kernel) ?_
  rintro args h Q ⟨a, rfl, hq⟩
  refine ⟨by simp [Tryz.f104], ?_⟩
  rw [awpFunc_some (by rfl)]
  simp -dsimp only [Vm.G, List.lookup, Nat.reduceAdd, Nat.reduceBEq, Int.reduceBNe, Int.reduceBEq, Nat.reduceLeDiff, q104, bne_self_eq_false]
  exact hq
def cmpIntSpec : Vm.Spec := fun args h Q => ∃ a b : Int, args = [.v (.int .i64 a), .v (.int .i64 b)] ∧ Q (.v (.int .i64 (cmpI a b))) h
theorem does_cmpInt : Does Tryz.prog 34 cmpIntSpec := by
  refine does_of_awp (good_cons does_isNaN good_nil) Tryz.func34 rfl (by decide +kernel) (by decide +kernel) ?_
  rintro args h Q ⟨a, b, rfl, hq⟩
  refine ⟨by simp [Tryz.f34], ?_⟩
  rw [awpFunc_some (by rfl)]
  unfold cmpI at hq
  simp -dsimp only [Vm.G, List.lookup, Nat.reduceAdd, Nat.reduceBEq, Int.reduceBNe, Int.reduceBEq, Nat.reduceLeDiff, q34]
  refine call_one (S := isNaNSpec) rfl _ GaL.rfl ⟨a, rfl, ?_⟩
  simp -dsimp only [Vm.G, List.lookup, Nat.reduceAdd, Nat.reduceBEq, Int.reduceBNe, Int.reduceBEq, Nat.reduceLeDiff, q34]
  refine call_one (S := isNaNSpec) rfl _ GaL.rfl ⟨b, rfl, ?_⟩
  cases c1 : decide (a < b)
  · have d1 := of_decide_eq_false c1
    rw [if_neg d1] at hq
    cases c2 : decide (a > b)
    · rw [if_neg (of_decide_eq_false c2)] at hq
      simp -dsimp only [Vm.G, List.lookup, Nat.reduceAdd, Nat.reduceBEq, Int.reduceBNe, Int.reduceBEq, Nat.reduceLeDiff, q34, c1, c2]
      exact hq
    · rw [if_pos (of_decide_eq_true c2)] at hq
      simp -dsimp only [Vm.G, List.lookup, Nat.reduceAdd, Nat.reduceBEq, Int.reduceBNe, Int.reduceBEq, Nat.reduceLeDiff, q34, c1, c2]
      exact hq
  · rw [if_pos (of_decide_eq_true c1)] at hq
    simp -dsimp only [Vm.G, List.lookup, Nat.reduceAdd, Nat.reduceBEq, Int.reduceBNe, Int.reduceBEq, Nat.reduceLeDiff, q34, c1]
    exact hq
def cmpLnSpec : Vm.Spec := fun args h Q => ∃ a b : Ln, args = [lnAv a, lnAv b] ∧ Q (.v (.int .i64 (cmpI a.fund b.fund))) h
theorem does_cmpLn : Does Tryz.prog 33 cmpLnSpec := by
  refine does_of_awp (good_cons does_cmpInt good_nil) Tryz.func33 rfl (by decide +kernel) (by decide +kernel) ?_
  rintro args h Q ⟨a, b, rfl, hq⟩
  refine ⟨by simp [Tryz.f33], ?_⟩
  rw [awpFunc_some (by rfl)]
  simp only [lnAv, lnCells]
  simp -dsimp only [Vm.G, List.lookup, Nat.reduceAdd, Nat.reduceBEq, Int.reduceBNe, Int.reduceBEq, Nat.reduceLeDiff, q33]
  refine call_one (S := cmpIntSpec) rfl _ GaL.rfl ⟨a.fund, b.fund, rfl, ?_⟩
  simp -dsimp only [Vm.G, List.lookup, Nat.reduceAdd, Nat.reduceBEq, Int.reduceBNe, Int.reduceBEq, Nat.reduceLeDiff, q33]
  exact hq
def loT : Tab := tab [(33, cmpLnSpec)]
theorem good_loT : Good loT := good_cons does_cmpLn good_nil
def srtLnSpec (T : Tab) : Vm.Spec := fun args h Q => ∃ (g : FuncId) (l : List Ln), T g = some cmpLnSpec ∧ l.length ≤ 9223372036854775807 ∧ l.Pairwise (fun a b => a.fund < b.fund) ∧ args = [.sl 4 (l.map lnAv), .clo g []] ∧ Q (.v (.bool true)) h
theorem does_srtLn {T : Tab} (hT : Good T) : Does Tryz.prog 32 (srtLnSpec T) := by
  refine does_of_awp hT Tryz.func32 rfl (by decide +kernel) (by decide +kernel) ?_
  rintro args h Q ⟨g, l, hg, hl, hp, rfl, hq⟩
  refine ⟨by simp [Tryz.f32], ?_⟩
  rw [awpFunc_some (by rfl)]
  have hw0 : IntKind.i64.wrap ((l.length : Int) - 1) = (l.length : Int) - 1 := wrap_i64 (by omega) (by omega)
  simp -dsimp only [Vm.G, List.lookup, Nat.reduceAdd, Nat.reduceBEq, Int.reduceBNe, Int.reduceBEq, Nat.reduceLeDiff, q32, hw0]
  refine awp_loop (fun m s h' => ∃ i : Nat, i = m ∧ i ≤ l.length ∧ h' = h ∧ s = mk [(0, .sl 4 (l.map lnAv)), (1, .clo g []), (5, .v (.int .i64 (((i : Nat) : Int) - 1)))])
    l.length _ (le_mk _ ?_) ⟨l.length, rfl, Nat.le_refl _, rfl, rfl⟩ ?_
  · simp only [List.forall_mem_cons, List.not_mem_nil, false_imp_iff, implies_true, and_true]
    try simp -dsimp only [Vm.G, List.lookup, Nat.reduceAdd, Nat.reduceBEq, Int.reduceBNe, Int.reduceBEq, Nat.reduceLeDiff, q32]
    repeat' first | exact Fg.refl _ | exact Fg.nil _ _ _ (by decide) | refine And.intro ?_ ?_
  · rintro m s h' ⟨i, rfl, hi, rfl, rfl⟩
    simp -dsimp only [Vm.G, List.lookup, Nat.reduceAdd, Nat.reduceBEq, Int.reduceBNe, Int.reduceBEq, Nat.reduceLeDiff, q32]
    refine cond_intro (fun hcc => ?_) (fun hcc => ?_)
    · have hge : 2 ≤ i := by have := of_decide_eq_true hcc; omega
      obtain ⟨j, rfl⟩ : ∃ j, i = j + 2 := ⟨i - 2, by omega⟩
      have e1 : ((j + 2 : Nat) : Int) - 1 = ((j + 1 : Nat) : Int) := by omega
      have e2 : IntKind.i64.wrap (((j + 1 : Nat) : Int) - 1) = ((j : Nat) : Int) := by rw [wrap_i64 (by omega) (by omega)]; omega
      have hlt := List.pairwise_iff_getElem.1 hp j (j + 1) (by omega) (by omega) (by omega)
      have hl1 : j + 1 < l.length := by omega
      have hl0 : j < l.length := by omega
      have hxe : ∃ x, l[j + 1] = x := ⟨_, rfl⟩
      have hye : ∃ y, l[j] = y := ⟨_, rfl⟩
      rcases hxe with ⟨x, hx⟩
      rcases hye with ⟨y, hy⟩
      rw [hx, hy] at hlt
      have hc : cmpI x.fund y.fund = 1 := by unfold cmpI; rw [if_neg (by omega), if_pos (by omega)]
      clear hcc
      simp -dsimp only [Vm.G, List.lookup, Nat.reduceAdd, Nat.reduceBEq, Int.reduceBNe, Int.reduceBEq, Nat.reduceLeDiff, q32, e1]
      refine draw_cont [] (.take 0 (.take 1 (.take 2 (.take 3 (.take 4 (.take 5 (.take 6 (.take 7 (.take 8 (.take 9 (.alt 10 (.take 11 (.done)) .stop))))))))))) (fun s h2 => h2 = h' ∧ s 24 = .v (.bool false) ∧ s 0 = .sl 4 (l.map lnAv) ∧ s 1 = .clo g [] ∧ s 5 = .v (.int .i64 ((j + 1 : Nat) : Int))) (by kernel_rfl) (by kernel_rfl) (by kernel_rfl) (by decide) ?_ ?_
      · clear hq
        simp -dsimp only [Vm.G, List.lookup, Nat.reduceAdd, Nat.reduceBEq, Int.reduceBNe, Int.reduceBEq, Nat.reduceLeDiff, q32, e2]
        refine idx_map lnAv l (j + 1) hl1 ?_
        simp only [hx, lnAv, lnCells]
        simp -dsimp only [Vm.G, List.lookup, Nat.reduceAdd, Nat.reduceBEq, Int.reduceBNe, Int.reduceBEq, Nat.reduceLeDiff, q32, AV.cells, e2]
        refine idx_map lnAv l j hl0 ?_
        simp only [hy, lnAv, lnCells]
        simp -dsimp only [Vm.G, List.lookup, Nat.reduceAdd, Nat.reduceBEq, Int.reduceBNe, Int.reduceBEq, Nat.reduceLeDiff, q32, AV.cells]
        refine call_one (S := cmpLnSpec) hg _ GaL.rfl ⟨x, y, rfl, ?_⟩
        rw [hc]
        simp -dsimp only [Vm.G, List.lookup, Nat.reduceAdd, Nat.reduceBEq, Int.reduceBNe, Int.reduceBEq, Nat.reduceLeDiff, q32]
        repeat' first | rfl | exact True.intro | refine And.intro ?_ ?_
      · rintro s h2 ⟨rfl, e24, e0, ee1, e5⟩
        simp -dsimp only [Vm.G, List.lookup, Nat.reduceAdd, Nat.reduceBEq, Int.reduceBNe, Int.reduceBEq, Nat.reduceLeDiff, q32, e24, e0, ee1, e5, e2]
        refine kept_intro ⟨j + 1, by omega, _, le_mk [(0, .sl 4 (l.map lnAv)), (1, .clo g []), (5, .v (.int .i64 (((j + 1 : Nat) : Int) - 1)))] ?_, j + 1, rfl, by omega, rfl, rfl⟩
        have e3 : ((j + 1 : Nat) : Int) - 1 = ((j : Nat) : Int) := by omega
        simp only [List.forall_mem_cons, List.not_mem_nil, false_imp_iff, implies_true, and_true, e3, e2, e24, e0, ee1, e5]
        try simp -dsimp only [Vm.G, List.lookup, Nat.reduceAdd, Nat.reduceBEq, Int.reduceBNe, Int.reduceBEq, Nat.reduceLeDiff, q32, e3, e2, e24, e0, ee1, e5]
        repeat' first | exact Fg.refl _ | exact Fg.nil _ _ _ (by decide) | refine And.intro ?_ ?_
    · simp -dsimp only [Vm.G, List.lookup, Nat.reduceAdd, Nat.reduceBEq, Int.reduceBNe, Int.reduceBEq, Nat.reduceLeDiff, q32]
      exact hq
def cloneLnSpec : Vm.Spec := fun args h Q => ∃ l : List Ln, l ≠ [] ∧ l.length ≤ 1073741824 ∧ args = [.sl 4 (l.map lnAv)] ∧ Q (.own true 45 4 (l.map lnAv)) h
theorem does_cloneLn : Does Tryz.prog 30 cloneLnSpec := by
  refine does_of_awp good_nil Tryz.func30 rfl (by decide +kernel) (by decide +kernel) ?_
  rintro args h Q ⟨l, hne, hl, rfl, hq⟩
  refine ⟨by simp [Tryz.f30], ?_⟩
  rw [awpFunc_some (by rfl)]
  simp -dsimp only [Vm.G, List.lookup, Nat.reduceAdd, Nat.reduceBEq, Int.reduceBNe, Int.reduceBEq, Nat.reduceLeDiff, q30]
  refine nil_slice Tryz.underlying36 (nilSl_sl fun b hb => ?_)
  cases b
  · simp -dsimp only [Vm.G, List.lookup, Nat.reduceAdd, Nat.reduceBEq, Int.reduceBNe, Int.reduceBEq, Nat.reduceLeDiff, q30]
    refine bs_intro zr45 (by decide) (by decide) rfl rfl (by simp) ?_
    simp -dsimp only [Vm.G, List.lookup, Nat.reduceAdd, Nat.reduceBEq, Int.reduceBNe, Int.reduceBEq, Nat.reduceLeDiff, q30]
    refine app_sl Tryz.underlying36 (fun c hc => by obtain ⟨y, -, rfl⟩ := List.mem_map.1 hc; rfl) ?_ ?_
    · simp only [List.length_map, List.length_nil]; omega
    simp -dsimp only [Vm.G, List.lookup, Nat.reduceAdd, Nat.reduceBEq, Int.reduceBNe, Int.reduceBEq, Nat.reduceLeDiff, q30]
    exact hq
  · have hl0 : l = [] := by simpa using hb rfl
    exact absurd hl0 hne
def lnoSpec : Vm.Spec := fun args h Q => ∃ (l : List Ln) (k : Int), l.length ≤ 9223372036854775807 ∧ (0 ≤ k ∧ k ≤ 255) ∧ args = [.sl 4 (l.map lnAv), .v (.int .u8 k)] ∧ ∀ h', Q (.v (.bool true)) h'
set_option maxRecDepth 20000 in
set_option maxHeartbeats 4000000 in
theorem does_lno : Does Tryz.prog 5 lnoSpec := by
  refine does_of_awp (good_cons does_plLines (good_cons does_law23awake (good_cons does_cloneLn (good_cons does_revSLn (good_cons does_funds (good_cons does_eqLn (good_cons (does_srtLn good_loT) good_nil))))))) Tryz.func5 rfl (by decide +kernel) (by decide +kernel) ?_
  rintro args h Q ⟨l, k, hl, hk, rfl, hq⟩
  refine ⟨by simp [Tryz.f5], ?_⟩
  rw [awpFunc_some (by rfl)]
  simp -dsimp only [Vm.G, List.lookup, Nat.reduceAdd, Nat.reduceBEq, Int.reduceBNe, Int.reduceBEq, Nat.reduceLeDiff, q5]
  refine call_one (S := plLinesSpec) rfl _ GaL.rfl ⟨l, rfl, ?_⟩
  have h1 := Bool.eq_false_or_eq_true (decide ((l.length : Int) ≤ 30))
  rcases h1 with c1 | c1
  · have d1 := of_decide_eq_true c1
    simp -dsimp only [Vm.G, List.lookup, Nat.reduceAdd, Nat.reduceBEq, Int.reduceBNe, Int.reduceBEq, Nat.reduceLeDiff, q5, c1]
    have h2 := Bool.eq_false_or_eq_true ((l.length : Int) == 0)
    rcases h2 with c2 | c2
    · simp -dsimp only [Vm.G, List.lookup, Nat.reduceAdd, Nat.reduceBEq, Int.reduceBNe, Int.reduceBEq, Nat.reduceLeDiff, q5, c2]
      refine call_one (S := trueSpec) rfl _ GaL.rfl ⟨rfl, fun hz => ?_⟩
      simp -dsimp only [Vm.G, List.lookup, Nat.reduceAdd, Nat.reduceBEq, Int.reduceBNe, Int.reduceBEq, Nat.reduceLeDiff, q5]
      exact hq _
    · have d2 : (l.length : Int) ≠ 0 := by simpa using c2
      have hwk : IntKind.i64.wrap k = k := wrap_i64 (by omega) (by omega)
      have hm := Int.tmod_eq_emod_of_nonneg (a := k) (b := l.length) (by omega)
      have hm1 := Int.emod_nonneg k (b := l.length) (by omega)
      have hm2 := Int.emod_lt_of_pos k (b := l.length) (by omega)
      have hne : ∃ n : Nat, k.tmod l.length = n ∧ n < l.length := ⟨(k % l.length).toNat, by rw [hm]; omega, by omega⟩
      rcases hne with ⟨n, hn, hnl⟩
      have hwn : IntKind.i64.wrap (k.tmod l.length) = (n : Int) := by rw [hn]; exact wrap_i64 (by omega) (by omega)
      simp -dsimp only [Vm.G, List.lookup, Nat.reduceAdd, Nat.reduceBEq, Int.reduceBNe, Int.reduceBEq, Nat.reduceLeDiff, q5, c2, hwk]
      refine rem_intro d2 ?_
      have ed : (l.map lnAv).drop n = (l.drop n).map lnAv := List.map_drop.symm
      have et : (l.map lnAv).take n = (l.take n).map lnAv := List.map_take.symm
      have hdn : l.drop n ≠ [] := by
        intro h0
        have := congrArg List.length h0
        rw [List.length_drop] at this
        simp at this
        omega
      have hdl : (l.drop n).length ≤ 30 := by rw [List.length_drop]; omega
      have htl : (l.take n).length ≤ 30 := by rw [List.length_take]; omega
      have hmp : ((l.drop n).map lnAv ++ (l.take n).map lnAv).reverse = ((l.drop n ++ l.take n).reverse).map lnAv := by rw [← List.map_append, List.map_reverse]
      have hpm : (l.drop n ++ l.take n).reverse.Perm l := (List.reverse_perm _).trans (List.perm_append_comm.trans (by rw [List.take_append_drop]))
      simp -dsimp only [Vm.G, List.lookup, Nat.reduceAdd, Nat.reduceBEq, Int.reduceBNe, Int.reduceBEq, Nat.reduceLeDiff, q5, hwn, hn]
      refine draw_cont [] (.take 0 (.take 1 (.take 2 (.take 4 (.take 5 (.take 6 (.alt 3 (.alt 7 (.alt 8 (.done) .stop) .stop) .stop))))))) (fun s h2 => h2 = h ∧ s 6 = .own true 45 4 ((l.drop n).map lnAv ++ (l.take n).map lnAv) ∧ s 0 = .sl 4 (l.map lnAv)) (by kernel_rfl) (by kernel_rfl) (by kernel_rfl) (by decide) ?_ ?_
      · clear hq
        simp -dsimp only [Vm.G, List.lookup, Nat.reduceAdd, Nat.reduceBEq, Int.reduceBNe, Int.reduceBEq, Nat.reduceLeDiff, q5]
        refine slice_l es36 (by omega) (by rw [List.length_map]; omega) ?_
        simp -dsimp only [Vm.G, List.lookup, Nat.reduceAdd, Nat.reduceBEq, Int.reduceBNe, Int.reduceBEq, Nat.reduceLeDiff, q5, Int.toNat_natCast, ed]
        refine slice_h es36 (by omega) (by rw [List.length_map]; omega) ?_
        simp -dsimp only [Vm.G, List.lookup, Nat.reduceAdd, Nat.reduceBEq, Int.reduceBNe, Int.reduceBEq, Nat.reduceLeDiff, q5, Int.toNat_natCast, et]
        refine call_one (S := cloneLnSpec) rfl _ GaL.rfl ⟨l.drop n, hdn, by omega, rfl, ?_⟩
        simp -dsimp only [Vm.G, List.lookup, Nat.reduceAdd, Nat.reduceBEq, Int.reduceBNe, Int.reduceBEq, Nat.reduceLeDiff, q5]
        refine app_sl Tryz.underlying36 (fun c hc => by obtain ⟨y, -, rfl⟩ := List.mem_map.1 hc; rfl) ?_ ?_
        · simp only [List.length_map]; omega
        simp -dsimp only [Vm.G, List.lookup, Nat.reduceAdd, Nat.reduceBEq, Int.reduceBNe, Int.reduceBEq, Nat.reduceLeDiff, q5]
        repeat' first | rfl | exact True.intro | refine And.intro ?_ ?_
      · rintro s h2 ⟨rfl, e6, e0⟩
        generalize hM : (l.drop n ++ l.take n).reverse = M at hmp hpm
        have hMl : M.length = l.length := hpm.length_eq
        have hM4 : ∀ x ∈ M.map lnAv, x.cells.length = 4 := fun x hx => by obtain ⟨p, -, rfl⟩ := List.mem_map.1 hx; rfl
        have hXs : ∃ X, (l.drop n).map lnAv ++ (l.take n).map lnAv = X := ⟨_, rfl⟩
        rcases hXs with ⟨X, hX⟩
        rw [hX] at e6 hmp
        have hXu : ∀ x ∈ X, ∃ a, x = .agg a ∧ a.length = 4 := fun x hx => by
          rw [← hX] at hx
          rcases List.mem_append.1 hx with hx | hx
          · obtain ⟨p, -, rfl⟩ := List.mem_map.1 hx; exact ⟨_, rfl, rfl⟩
          · obtain ⟨p, -, rfl⟩ := List.mem_map.1 hx; exact ⟨_, rfl, rfl⟩
        have hXl : X.length = l.length := by rw [← List.length_reverse, hmp, List.length_map, hMl]
        simp -dsimp only [Vm.G, List.lookup, Nat.reduceAdd, Nat.reduceBEq, Int.reduceBNe, Int.reduceBEq, Nat.reduceLeDiff, q5, e6, e0]
        refine call_in _ _ _ ?_
        simp -dsimp only [Vm.G, List.lookup, Nat.reduceAdd, Nat.reduceBEq, Int.reduceBNe, Int.reduceBEq, Nat.reduceLeDiff, q5, callI_eq, ownSl_own, ownSl_alias, e6, e0]
        refine callI_tup (S := orS revSpecLn revNilLn) (fun xs' => xs' = M.map lnAv) rfl
          (fun xs' hx => ?_) (fun hx => ⟨?_, fun Q' hq' => .inr ⟨rfl, hq'⟩⟩) (fun c hc Q' hq' => .inl ⟨X, _, c, 45, rfl, rfl, hXu, by omega, ?_⟩) (fun xs' hx => ?_)
        · subst hx
          exact ⟨fun x hx => by rw [← hmp] at hx; simpa using hx, by rw [← hmp, List.length_reverse]⟩
        · rw [← hmp, hx]; rfl
        · rw [hmp]
          refine hq' _ _ rfl ?_
          rw [List.take_of_length_le]
          rw [flat_length hM4]
          rw [List.length_map, hMl]
          exact Nat.le_refl _
        · subst hx
          simp -dsimp only [Vm.G, List.lookup, Nat.reduceAdd, Nat.reduceBEq, Int.reduceBNe, Int.reduceBEq, Nat.reduceLeDiff, q5, e0]
          refine call_one (S := fundsSpec) rfl _ GaL.rfl ⟨l, by omega, rfl, fun r h3 hr hs3 => ?_⟩
          have hrl := hr.len
          simp -dsimp only [Vm.G, List.lookup, Nat.reduceAdd, Nat.reduceBEq, Int.reduceBNe, Int.reduceBEq, Nat.reduceLeDiff, q5]
          refine call_one (S := fundsSpec) rfl _ GaL.rfl ⟨M, by omega, rfl, fun r2 h4 hr2 hs4 => ?_⟩
          have he := funds_same (hr2.perm hpm) hr
          subst he
          simp -dsimp only [Vm.G, List.lookup, Nat.reduceAdd, Nat.reduceBEq, Int.reduceBNe, Int.reduceBEq, Nat.reduceLeDiff, q5]
          refine call_one (S := eqSpecLn) rfl _ GaL.rfl ⟨r2, r2, by omega, rfl, fun b hb => ?_⟩
          have hb1 : b = true := hb.2 rfl
          subst hb1
          simp -dsimp only [Vm.G, List.lookup, Nat.reduceAdd, Nat.reduceBEq, Int.reduceBNe, Int.reduceBEq, Nat.reduceLeDiff, q5]
          refine call_one (S := srtLnSpec loT) rfl _ GaL.rfl ⟨33, r2, rfl, by omega, hr.1, rfl, ?_⟩
          simp -dsimp only [Vm.G, List.lookup, Nat.reduceAdd, Nat.reduceBEq, Int.reduceBNe, Int.reduceBEq, Nat.reduceLeDiff, q5]
          refine call_one (S := trueSpec) rfl _ GaL.rfl ⟨rfl, fun hz => ?_⟩
          simp -dsimp only [Vm.G, List.lookup, Nat.reduceAdd, Nat.reduceBEq, Int.reduceBNe, Int.reduceBEq, Nat.reduceLeDiff, q5]
          exact hq _
  · simp -dsimp only [Vm.G, List.lookup, Nat.reduceAdd, Nat.reduceBEq, Int.reduceBNe, Int.reduceBEq, Nat.reduceLeDiff, q5, c1]
    refine call_one (S := trueSpec) rfl _ GaL.rfl ⟨rfl, fun hz => ?_⟩
    simp -dsimp only [Vm.G, List.lookup, Nat.reduceAdd, Nat.reduceBEq, Int.reduceBNe, Int.reduceBEq, Nat.reduceLeDiff, q5]
    exact hq _
theorem lno_args {y0 y1 : AV} (i0 : IsA (.sl (.agg [.int .i64, .int .i64, .int .i64, .int .i64])) y0) (i1 : IsA (.int .u8) y1) {Q : AV → Heap → Prop} (hq : ∀ h', Q (.v (.bool true)) h') : lnoSpec [y0, y1] [] Q := by
  obtain ⟨l, hl, rfl, -⟩ := isA_list _ lnAv (fun y hy => isA_lnq hy) i0
  obtain ⟨b, b1, b2, rfl⟩ := isA_un i1
  have e3 : IntKind.u8.min = 0 := by decide
  have e4 : IntKind.u8.max = 255 := by decide
  rw [e3] at b1; rw [e4] at b2
  exact ⟨l, b, hl, ⟨b1, b2⟩, rfl, hq⟩
end Go.Proofs.Lx
