/- Whole pieces of code, and whole functions, do what the interpreter says. -/
import Derived.OrdersHeld
import Derived.Test.YthfbpdipilajoaaGreatDoorVmT
import Derived.Test.YthfbpdipilajoaaGreatDoorVmS
import Derived.Deep.LoopGhost
import Derived.Scope
import Derived.Control
set_option linter.unusedVariables false
set_option linter.unusedSimpArgs false
namespace Go.Vm
open Go.RowKit

section
variable {P : Program} {H : Hst} {w0 : World} {g0 : Gh} {N : Nat} {T : FuncId → Option Spec}

theorem sound_op {o : Oper} {s : Slots} {h : Heap} {g : Gh} {a : Act} {w : World} {K : AV → Slots → Heap → Prop} {Q : Exit → Act → World → Prop} (hT : ∀ f S, T f = some S → Does P f S)
    (r : R H w0 g0 s h g a w) (hN : a.tmps.size = N) (hd : ∀ d, o.dst = some d → d < N) (hK : awpOp P T o.op s h K) : o.wp P a w (Aft N H w0 g0 o K) Q := by
  unfold awpOp at hK
  split at hK
  · rename_i ho; exact sound_move ho r hN hd hK
  · rename_i ho; exact sound_assign ho r hN hd hK
  · rename_i ho
    unfold condA at hK
    split at hK
    · rename_i hc; exact sound_pick ho r hN hd hc hK.1 hK.2
    · exact hK.elim
  · rename_i ho; exact wp_of_pw (sound_binXP ho r hN hd hK)
  · rename_i ho; exact sound_cvX ho r hN hd hK
  · rename_i ho; exact sound_buildSlice ho r hN hd hK
  · rename_i ho; exact wp_of_pw (sound_idxXP ho r hN hd hK)
  · rename_i ho; exact wp_of_pw (sound_indexP ho r hN hd hK)
  · rename_i ho; exact sound_load ho r hN hd hK
  · rename_i ho; exact sound_nilCheck ho r hN hd hK
  · rename_i ho; exact sound_fieldAddr ho r hN hd hK
  · rename_i ho; exact sound_field ho r hN hd hK
  · rename_i ho; exact sound_box ho r hN hd hK
  · rename_i ho; exact sound_alloc ho r hN hd hK
  · rename_i ho; exact sound_store ho r hN hd hK
  · rename_i ho; exact sound_makeFunc ho r hN hd hK
  · rename_i ho; exact sound_un ho r hN hd hK
  · rename_i ho; exact sound_slice ho r hN hd hK
  · rename_i ho; exact sound_make ho r hN hd hK
  · rename_i ho
    exact sound_extractS ho r hN hd hK
  · rename_i ho; exact sound_callV hT ho r hN hd hK
  · rename_i ho; exact sound_buiX ho r hN hd hK
  · rename_i ho; exact sound_makeMap ho r hN hd hK
  · rename_i ho; exact sound_lookup ho r hN hd hK
  · rename_i ho; exact sound_update (.inl ho) r hN hd hK
  · rename_i ho; exact sound_update (.inr ho) r hN hd hK
  · rename_i ho; exact sound_range ho r hN hd hK
  · rename_i ho; exact sound_next ho r hN hd hK
  · rename_i ho; exact sound_entry ho r hN hd hK
  · rename_i ho; exact sound_build ho r hN hd hK
  · exact hK.elim

theorem R.known {s : Slots} {h : Heap} {g : Gh} {a : Act} {w : World} (r : R H w0 g0 s h g a w) {d : Nat} {b : Bool} (hs : s d = .v (.bool b)) : R H w0 g0 (set s d (.v (.bool b))) h g a w := by
  have : set s d (.v (.bool b)) = s := by funext i; unfold set; split <;> simp_all
  rw [this]; exact r

/-- What holds behind some operations. -/
def Done (N : Nat) (H : Hst) (w0 : World) (g0 : Gh) (K : Slots → Heap → Prop) (a : Act) (w : World) : Prop := ∃ s h g, K s h ∧ R H w0 g0 s h g a w ∧ a.tmps.size = N

theorem undef_rep (w : World) (g : Gh) : Rep w g (.tup []) undef := .tup rfl (fun j u hu => by simp at hu)

theorem yielded_tup {ops : Array Oper} {s : Slots} {h : Heap} {g : Gh} {a : Act} {w : World} (r : R H w0 g0 s h g a w) {j d : Nat} {vs : List AV} (hj : (ops[j]?).bind (·.dst) = some d) (hs : s d = .tup vs) : yielded ops a.tmps j = none := by
  have hsl := r.slots d
  rw [hs] at hsl
  have hsl' : Rep w g (.tup vs) (a.tmps.getD d undef) := hsl
  simp only [yielded, hj, Option.bind_some]
  rw [Array.getD_eq_getD_getElem?] at hsl'
  cases hx : a.tmps[d]? with
  | none => rfl
  | some y =>
    rw [hx] at hsl'
    simp only [Option.getD_some] at hsl'
    cases hsl' with
    | tup => rfl

theorem sound_at {ops : Array Oper} {o : Oper} {s : Slots} {h : Heap} {g : Gh} {a : Act} {w : World} {K : Slots → Heap → Prop} {Q : Exit → Act → World → Prop} {i : Nat} {K2 : Act → World → Prop} (hT : ∀ f S, T f = some S → Does P f S)
    (hi : ops[i]? = some o) (r : R H w0 g0 s h g a w) (hN : a.tmps.size = N) (hd : ∀ d, o.dst = some d → d < N) (hK : awpAt P T ops o s h K)
    (next : ∀ a w, Done N H w0 g0 K a w → K2 a w) : wpOp P ops Q i K2 a w := by
  have step : ∀ (s : Slots) (a : Act), R H w0 g0 s h g a w → a.tmps.size = N → awpOp P T o.op s h (fun x s' h' => K (putD o.dst s' x) h') → o.wp P a w K2 Q := by
    intro s a r hN hK
    refine Oper.wp_mono (K := Aft N H w0 g0 o _) ?_ (sound_op hT r hN hd hK)
    rintro a' w' ⟨x, s', h', g', hk, r', hn⟩
    exact next a' w' ⟨_, h', g', hk, r', hn⟩
  simp only [wpOp, hi]
  unfold awpAt at hK
  split at hK
  · rename_i hg
    have hw : Region.wanted o (yielded ops a.tmps) = true := by simp [Region.wanted, hg]
    rw [if_pos hw]
    exact .inl (step s a r hN hK)
  · rename_i j want hg
    unfold awpGuard at hK
    split at hK
    · exact hK.elim
    · rename_i d hj
      unfold guardA at hK
      split at hK
      · rename_i b hs
        have hsl := r.slots d
        rw [hs] at hsl
        have hv : a.tmps.getD d undef = .bool b := (rep_v hsl).1
        have hy : yielded ops a.tmps j = some b := by
          have : a.tmps[d]? = some (.bool b) := by
            rw [Array.getD_eq_getD_getElem?] at hv
            cases hx : a.tmps[d]? with
            | none => rw [hx] at hv; simp [undef] at hv
            | some y => rw [hx] at hv; simp at hv; rw [hv]
          simp [yielded, hj, this]
        by_cases hb : b = want
        · subst hb
          have hw : Region.wanted o (yielded ops a.tmps) = true := by simp [Region.wanted, hg, hy]
          rw [if_pos hw]
          exact .inl (step _ a (r.known hs) hN (hK.1 rfl))
        · have hw : Region.wanted o (yielded ops a.tmps) = false := by simp [Region.wanted, hg, hy, hb]
          rw [hw]
          simp only [Bool.false_eq_true, if_false]
          have hb' : b = !want := by cases b <;> cases want <;> simp_all
          have hk := hK.2 hb'
          subst hb'
          refine next _ _ ⟨_, h, g, hk, ?_, by rw [size_put]; exact hN⟩
          cases ho : o.dst with
          | none => exact r.known hs
          | some d' => exact (r.known hs).put_rep (by rw [hN]; exact hd d' ho) (undef_rep _ _)
      · rename_i vs hs
        have hw : Region.wanted o (yielded ops a.tmps) = false := by simp [Region.wanted, hg, yielded_tup r hj hs]
        rw [hw]
        simp only [Bool.false_eq_true, if_false]
        refine next _ _ ⟨_, h, g, hK, ?_, by rw [size_put]; exact hN⟩
        cases ho : o.dst with
        | none => exact r
        | some d' => exact r.put_rep (by rw [hN]; exact hd d' ho) (undef_rep _ _)
      · exact hK.elim

theorem sound_ops {ops : Array Oper} {Q : Exit → Act → World → Prop} (hT : ∀ f S, T f = some S → Does P f S) (hds : ∀ o ∈ ops.toList, ∀ d, o.dst = some d → d < N) :
    ∀ (l : List Oper) (k : Nat) {s : Slots} {h : Heap} {g : Gh} {a : Act} {w : World} {K : Slots → Heap → Prop}, ops.toList.drop k = l → R H w0 g0 s h g a w → a.tmps.size = N →
      awpOps P T ops l s h K → (∀ a w, Done N H w0 g0 K a w → Q .normal a w) → wpOps P ops Q ((List.range ops.size).drop k) a w
  | [], k, s, h, g, a, w, K, hl, r, hN, hK, hQ => by
    have : ops.size ≤ k := by
      have := congrArg List.length hl
      simp at this; omega
    rw [List.drop_eq_nil_of_le (by simpa using this)]
    exact hQ a w ⟨s, h, g, hK, r, hN⟩
  | o :: l, k, s, h, g, a, w, K, hl, r, hN, hK, hQ => by
    have hk : k < ops.size := by
      rcases Nat.lt_or_ge k ops.size with h' | h'
      · exact h'
      · rw [List.drop_eq_nil_of_le (by simpa using h')] at hl; cases hl
    have hk' : k < ops.toList.length := by simpa using hk
    rw [List.drop_eq_getElem_cons hk'] at hl
    injection hl with h1 h2
    have hr : (List.range ops.size).drop k = k :: (List.range ops.size).drop (k + 1) := by
      rw [List.drop_eq_getElem_cons (by simpa using hk)]; simp
    rw [hr, wpOps_cons]
    have ho : ops[k]? = some o := by
      rw [Array.getElem?_eq_getElem hk, ← h1]; simp
    refine sound_at hT ho r hN (hds o (by rw [← h1]; exact List.getElem_mem _)) hK ?_
    rintro a' w' ⟨s', h', g', hk2, r', hn'⟩
    exact sound_ops hT hds l (k + 1) h2 r' hn' hk2 hQ

/-- What holds behind a piece of code. -/
def QR (N : Nat) (H : Hst) (w0 : World) (g0 : Gh) (Q : Out → Slots → Heap → Prop) : Exit → Act → World → Prop
  | .normal => Done N H w0 g0 (Q .normal)
  | .exit id => Done N H w0 g0 (Q (.exit id))
  | .ret => Done N H w0 g0 (Q .ret)
  | _ => fun _ _ => False

theorem sound_opP {o : Oper} {s : Slots} {h : Heap} {g : Gh} {a : Act} {w : World} {K : AV → Slots → Heap → Prop} (hp : (isPure P o.op || isRead o.op) = true) (hok : takeOk P s o.op)
    (r : R H w0 g0 s h g a w) (hN : a.tmps.size = N) (hd : ∀ d, o.dst = some d → d < N) (hK : awpOp P T o.op s h K) : Pw P o a w g (Aft N H w0 g0 o K) := by
  unfold awpOp at hK
  split at hK
  · rename_i ho; exact sound_moveP ho r hN hd hK
  · rename_i ho; rw [ho] at hp; cases hp
  · rename_i ho
    unfold condA at hK
    split at hK
    · rename_i hc; exact sound_pickP ho r hN hd hc hK.1 hK.2
    · exact hK.elim
  · rename_i ho; exact sound_binXP ho r hN hd hK
  · rename_i src dst x ho
    rw [ho] at hok
    by_cases hsrc : ∃ k, P.underlying src = some (.int k)
    · refine sound_convP ho r hN hd ?_
      obtain ⟨ki, hki⟩ := hsrc
      unfold awpCvX at hK
      split at hK
      · unfold awpStrOf at hK
        split at hK
        · obtain ⟨-, hb, -⟩ := hK
          obtain ⟨e, he, -⟩ := bytesT_spec hb
          rw [hki] at he; cases he
        · obtain ⟨e, he, -⟩ := bytesT_spec hK.1
          rw [hki] at he; cases he
        · rw [hki] at hK; cases hK.1
        · exact hK.elim
      split at hK
      · rw [hki] at hK; cases hK.2.1
      unfold awpCv at hK
      split at hK
      · obtain ⟨-, he, hu, -⟩ := hK
        subst he
        rw [hki] at hu; exact hu.elim
      · exact hK
    · have he : slA (ev s x) := by
        have hok : takeC (P.underlying src) (ev s x) := hok
        unfold takeC at hok
        split at hok
        · rename_i k hk; exact absurd ⟨k, hk⟩ hsrc
        · exact hok
      unfold awpCvX at hK
      split at hK
      · rename_i hu; exact sound_strOfP ho r hN hd hu he hK
      · exfalso
        generalize hy : ev s x = y at he hK
        cases y with
        | sl sz xs =>
          simp only [look] at hK
          unfold awpCv at hK
          split at hK
          · rename_i m e sz' xs' s' htk
            unfold tk at htk
            cases x with
            | tmp t =>
              have hy' : s t = .sl sz xs := hy
              simp only [hy'] at htk
              cases htk
            | _ => simp only at htk; rw [hy] at htk; cases htk
          · exact hK.elim
        | _ => exact he.elim
  · rename_i ho; rw [ho] at hp; cases hp
  · rename_i ho; exact sound_idxXP ho r hN hd hK
  · rename_i ho; exact sound_indexP ho r hN hd hK
  · rename_i ho; rw [ho] at hok; exact sound_loadP ho r hN hd hok hK
  · rename_i ho; exact sound_nilCheckP ho r hN hd hK
  · rename_i ho; exact sound_fieldAddrP ho r hN hd hK
  · rename_i ho; rw [ho] at hp; cases hp
  · rename_i ho; rw [ho] at hp; cases hp
  · rename_i ho; rw [ho] at hp; cases hp
  · rename_i ho; rw [ho] at hp; cases hp
  · rename_i ho; rw [ho] at hp; cases hp
  · rename_i ho; exact sound_unP ho r hN hd hK
  · rename_i ho; exact sound_sliceP ho r hN hd hK
  · rename_i ho; rw [ho] at hp; cases hp
  · rename_i ho
    exact sound_extractSP ho r hN hd hK
  · rename_i ho; rw [ho] at hp; cases hp
  · rename_i b args ts ho
    rw [ho] at hp
    unfold awpBui at hK
    split at hK
    · cases hp
    · cases hp
    · cases hp
    · cases hp
    · exact sound_builtinP ho r hN hd hK
  · rename_i ho; rw [ho] at hp; cases hp
  · rename_i ho; rw [ho] at hp; cases hp
  · rename_i ho; rw [ho] at hp; cases hp
  · rename_i ho; rw [ho] at hp; cases hp
  · rename_i ho; rw [ho] at hp; cases hp
  · rename_i ho; rw [ho] at hp; cases hp
  · rename_i ho; rw [ho] at hp; cases hp
  · rename_i ho; rw [ho] at hp; cases hp
  · exact hK.elim

theorem set_same {s : Slots} {d : Nat} {x : AV} (h : s d = x) : set s d x = s := by
  funext i; unfold set; split
  · rename_i e; subst e; exact h.symm
  · rfl

theorem wpAnyH_weaken {ops : Array Oper} {Q : Exit → Act → World → Prop} {S S' : World → Prop} (hS : ∀ w, S w → S' w) : ∀ (fuel : Nat) (l : Array Bool) (a : Act) (w : World),
    wpAnyH P .any ops Q S fuel l a w → wpAnyH P .any ops Q S' fuel l a w
  | 0, _, _, _, h => h
  | fuel + 1, _, _, _, h => ⟨h.1, fun i hi => wpOp_mono (fun a' w' h' => ⟨hS _ h'.1, wpAnyH_weaken hS fuel _ a' w' h'.2⟩) (h.2 i hi)⟩

theorem sound_atP {ops : Array Oper} {o : Oper} {s : Slots} {h : Heap} {g : Gh} {a : Act} {w : World} {K : Slots → Heap → Prop} (hp : (isPure P o.op || isRead o.op) = true) (hok : takeOk P s o.op)
    (r : R H w0 g0 s h g a w) (hN : a.tmps.size = N) (hd : ∀ d, o.dst = some d → d < N) (hK : awpAt P T ops o s h K) :
    ∃ v, YieldsIf P ops (Cells w g) o v a ∧ Done N H w0 g0 K (a.put o.dst v) w := by
  have step : ∀ (s : Slots) (a : Act), takeOk P s o.op → R H w0 g0 s h g a w → a.tmps.size = N → awpOp P T o.op s h (fun x s' h' => K (putD o.dst s' x) h') → Region.wanted o (yielded ops a.tmps) = true → ∃ v, YieldsIf P ops (Cells w g) o v a ∧ Done N H w0 g0 K (a.put o.dst v) w := by
    intro s a hok r hN hK hw
    obtain ⟨v, h1, x, s', h', g', hk, r', hn⟩ := sound_opP hp hok r hN hd hK
    exact ⟨v, .inl ⟨hw, h1⟩, _, h', g', hk, r', hn⟩
  unfold awpAt at hK
  split at hK
  · rename_i hg
    exact step s a hok r hN hK (by simp [Region.wanted, hg])
  · rename_i j want hg
    unfold awpGuard at hK
    split at hK
    · exact hK.elim
    · rename_i d hj
      unfold guardA at hK
      split at hK
      · rename_i b hs
        have hsl := r.slots d
        rw [hs] at hsl
        have hv : a.tmps.getD d undef = .bool b := (rep_v hsl).1
        have hy : yielded ops a.tmps j = some b := by
          have : a.tmps[d]? = some (.bool b) := by
            rw [Array.getD_eq_getD_getElem?] at hv
            cases hx : a.tmps[d]? with
            | none => rw [hx] at hv; simp [undef] at hv
            | some y => rw [hx] at hv; simp at hv; rw [hv]
          simp [yielded, hj, this]
        by_cases hb : b = want
        · subst hb
          exact step _ a (by rw [set_same hs]; exact hok) (r.known hs) hN (hK.1 rfl) (by simp [Region.wanted, hg, hy])
        · have hw : Region.wanted o (yielded ops a.tmps) = false := by simp [Region.wanted, hg, hy, hb]
          have hb' : b = !want := by cases b <;> cases want <;> simp_all
          have hk := hK.2 hb'
          subst hb'
          refine ⟨undef, .inr ⟨hw, rfl⟩, _, h, g, hk, ?_, by rw [size_put]; exact hN⟩
          cases ho : o.dst with
          | none => exact r.known hs
          | some d' => exact (r.known hs).put_rep (by rw [hN]; exact hd d' ho) (undef_rep _ _)
      · rename_i vs hs
        have hw : Region.wanted o (yielded ops a.tmps) = false := by simp [Region.wanted, hg, yielded_tup r hj hs]
        refine ⟨undef, .inr ⟨hw, rfl⟩, _, h, g, hK, ?_, by rw [size_put]; exact hN⟩
        cases ho : o.dst with
        | none => exact r
        | some d' => exact r.put_rep (by rw [hN]; exact hd d' ho) (undef_rep _ _)
      · exact hK.elim

theorem sound_tree {ops : Array Oper} {Q : Exit → Act → World → Prop} {K : Slots → Heap → Prop} (hT : ∀ f S, T f = some S → Does P f S) (hds : ∀ o ∈ ops.toList, ∀ d, o.dst = some d → d < N)
    (hsel : Region.noSelect ops = true) (hQ : ∀ c a w, Q (.panic c) a w → False) :
    ∀ (t : Tree) (l : Array Bool) (e : Option (List Nat)), chk P ops t l e = true → ∀ (fuel : Nat), t.deep ≤ fuel → ∀ {H : Hst} {s : Slots} {h : Heap} {g : Gh} {a : Act} {w : World},
      (∀ a w, Done N H w0 g0 K a w → Q .normal a w) → R H w0 g0 s h g a w → a.tmps.size = N → awpTree P T ops t s h K →
      match e with
      | none => wpAnyH P .any ops Q (Cells H.w H.g) fuel l a w
      | some js => ∀ f, fuel = f + 1 → ∀ i ∈ js, wpOp P ops Q i (fun a' w' => Cells H.w H.g w' ∧ wpAnyH P .any ops Q (Cells H.w H.g) f (l.setIfInBounds i true) a' w') a w := by
  have hmem : ∀ {i : Nat} {o : Oper}, ops[i]? = some o → ∀ d, o.dst = some d → d < N := fun hi => hds _ (by
    have := Array.mem_of_getElem? hi
    simpa using this)
  intro t
  induction t with
  | done =>
    intro l e hc fuel hf H s h g a w hn r hN hK
    cases e with
    | none => exact wpAnyH_done (by simpa [chk] using hc) (hn a w ⟨s, h, g, hK, r, hN⟩) fuel
    | some js => simp [chk] at hc
  | stop =>
    intro l e hc fuel hf H s h g a w hn r hN hK
    cases e with
    | none => simp [chk] at hc
    | some js =>
      cases js with
      | nil => intro f _ i hi; cases hi
      | cons j js => simp [chk] at hc
  | take i t ih =>
    intro l e hc fuel hf H s h g a w hn r hN hK
    cases e with
    | none =>
      simp only [chk, Bool.and_eq_true] at hc
      obtain ⟨⟨⟨h1, h2⟩, h3⟩, h4⟩ := hc
      unfold awpTree at hK
      split at hK
      · rename_i o hi
        obtain ⟨hok, hK⟩ := hK
        simp only [hi, Option.any_some] at h3
        obtain ⟨v, hy, s', h', g', hk, r', hn'⟩ := sound_atP h3 hok r.rebase hN (hmem hi) hK
        cases fuel with
        | zero => simp [Tree.deep] at hf
        | succ f =>
          have hn2 : ∀ a' w', Done N ⟨w, g⟩ w0 g0 K a' w' → Q .normal a' w' := fun a' w' ⟨s2, h2, g2, k2, r2, n2⟩ => hn a' w' ⟨s2, h2, g2, k2, r2.back r.kept, n2⟩
          have := wpAnyH_take hi hsel h2 h1 (fun c a w hq => (hQ c _ w hq).elim) hy (Cells.refl w g) (ih _ none h4 f (by simp only [Tree.deep] at hf; omega) hn2 r' hn' hk)
          exact wpAnyH_weaken (fun w' hc' => Cells.after r.kept hc') _ _ _ _ this
      · exact hK.elim
    | some js => simp [chk] at hc
  | alt i t rt iht ihr =>
    intro l e hc fuel hf H s h g a w hn r hN hK
    simp only [chk] at hc
    split at hc
    · rename_i j js he
      simp only [Bool.and_eq_true, beq_iff_eq] at hc
      obtain ⟨⟨rfl, h2⟩, h3⟩ := hc
      simp only [awpTree] at hK
      obtain ⟨hK1, hK2⟩ := hK
      have hd1 : t.deep + 1 ≤ fuel ∧ rt.deep ≤ fuel := by simp only [Tree.deep] at hf; omega
      have all : ∀ f, fuel = f + 1 → ∀ k ∈ i :: js, wpOp P ops Q k (fun a' w' => Cells H.w H.g w' ∧ wpAnyH P .any ops Q (Cells H.w H.g) f (l.setIfInBounds k true) a' w') a w := by
        intro f hfu k hk
        rcases List.mem_cons.1 hk with rfl | hk
        · split at hK1
          · rename_i o hi
            refine sound_at hT hi r hN (hmem hi) hK1 ?_
            rintro a' w' ⟨s', h', g', hk', r', hn'⟩
            exact ⟨r'.kept.cell, iht _ none h2 f (by omega) hn r' hn' hk'⟩
          · exact hK1.elim
        · exact ihr l (some js) h3 fuel hd1.2 hn r hN hK2 f hfu k hk
      cases e with
      | none =>
        simp only [Option.getD_none] at he
        cases fuel with
        | zero => omega
        | succ f => exact wpAnyH_all he (by simp) (all f rfl)
      | some js' =>
        simp only [Option.getD_some] at he
        subst he
        exact all
    · cases hc

theorem sound (hT : ∀ f S, T f = some S → Does P f S) (c : Code) : ∀ {s : Slots} {h : Heap} {g : Gh} {a : Act} {w : World} {Q : Out → Slots → Heap → Prop},
    dstsOk N c = true → R H w0 g0 s h g a w → a.tmps.size = N → awp P T c s h Q → c.wp P (QR N H w0 g0 Q) a w := by
  induction c with
  | skip => intro s h g a w Q _ r hN hK; exact wp_skip ⟨s, h, g, hK, r, hN⟩
  | region id ops draw =>
    intro s h g a w Q hd r hN hK
    have hds : ∀ o ∈ ops.toList, ∀ d, o.dst = some d → d < N := fun o ho d hod => by
      have := List.all_eq_true.1 hd o ho
      rw [hod] at this
      simpa using this
    cases draw with
    | true =>
      obtain ⟨⟨hm, hsel⟩, ks, t, C, hc, hdp, hK, hC⟩ := hK
      obtain ⟨g2, r2⟩ := R.pubs ks (R.drew r)
      exact wp_region_held hm (sound_tree hT hds (Q := QR N H w0 g0 Q) hsel (fun _ _ _ h => h) t _ none (by simpa using hc) ops.size hdp (fun a w ⟨s2, h2, g2, k2, r2⟩ => ⟨s2, h2, g2, hC _ _ k2, r2⟩) r2 hN hK)
    | false =>
      refine wp_region ?_
      exact sound_ops hT hds ops.toList 0 rfl r hN hK fun a w hq => hq
  | seq x y ihx ihy =>
    intro s h g a w Q hd r hN hK
    simp only [dstsOk, Bool.and_eq_true] at hd
    refine wp_seq (wp_mono (ihx hd.1 r hN hK) ?_)
    intro e a' w' hq
    cases e with
    | normal => obtain ⟨s', h', g', hk, r', hn'⟩ := hq; exact ihy hd.2 r' hn' hk
    | exit id => exact hq
    | ret => exact hq
    | _ => exact hq.elim
  | cond c x y ihx ihy =>
    intro s h g a w Q hd r hN hK
    simp only [dstsOk, Bool.and_eq_true] at hd
    simp only [awp, condA] at hK
    split at hK
    · rename_i t hc
      have he := r.eval c
      rw [hc] at he
      refine wp_cond_split (rep_v he).1 (fun ht => ihx hd.1 r hN (hK.1 ht)) fun hf => ihy hd.2 r hN (hK.2 hf)
    · exact hK.elim
  | block id b ih =>
    intro s h g a w Q hd r hN hK
    refine wp_block (wp_mono (ih hd r hN hK) ?_)
    intro e a' w' hq
    cases e with
    | normal => exact hq
    | exit id' =>
      obtain ⟨s', h', g', hk, r', hn'⟩ := hq
      simp only [Exit.inBlock]
      split
      · rename_i e; simp only [blockO, e, if_true] at hk; exact ⟨s', h', g', hk, r', hn'⟩
      · rename_i e; simp only [blockO, e, if_false] at hk; exact ⟨s', h', g', hk, r', hn'⟩
    | ret => exact hq
    | _ => exact hq.elim
  | loop b ih =>
    intro s h g a w Q hd r hN hK
    obtain ⟨I, n, ⟨s1, hle, hI⟩, hround⟩ := hK
    refine wp_loop_ghost (fun n a w => ∃ s h g, I n s h ∧ R H w0 g0 s h g a w ∧ a.tmps.size = N) n ⟨s1, h, g, hI, r.le hle, hN⟩ ?_
    rintro n a w ⟨s, h, g, hI, r, hN⟩
    refine wp_mono (ih hd r hN (hround n s h hI)) ?_
    intro e a' w' hq
    cases e with
    | normal =>
      obtain ⟨s', h', g', ⟨m, hm, s2, hle2, hI2⟩, r', hn'⟩ := hq
      exact ⟨m, hm, s2, h', g', hI2, r'.le hle2, hn'⟩
    | exit id => exact hq
    | ret => exact hq
    | _ => exact hq.elim
  | rangeFunc f p x y => intro s h g a w Q _ _ _ hK; exact hK.elim
  | exit id => intro s h g a w Q _ r hN hK; exact wp_exit ⟨s, h, g, hK, r, hN⟩
  | scope b ih =>
    intro s h g a w Q hd r hN hK
    refine wp_scope_straight (wp_mono (ih hd r hN hK) ?_)
    intro e a' w' hq
    cases e with
    | normal => exact hq
    | exit id => exact hq
    | ret => exact hq
    | _ => exact hq.elim
  | label l => intro s h g a w Q _ r hN hK; exact wp_label ⟨s, h, g, hK, r, hN⟩
  | goto l => intro s h g a w Q _ _ _ hK; exact hK.elim
  | ret => intro s h g a w Q _ r hN hK; exact wp_ret ⟨s, h, g, hK, r, hN⟩
  | refuse y => intro s h g a w Q _ _ _ hK; exact hK.elim

def resVar (tm : Nat → Value) : ResultVar → Sem Value
  | .tmp t => pure (tm t)
  | .cell x t => do loadVar t (← asAddr (tm x))

theorem sound_results {a : Act} {w : World} : ∀ (rs : List ResultVar) {s : Slots} {h : Heap} {g : Gh} {K : List AV → Slots → Heap → Prop}, R H w0 g0 s h g a w → awpResults P rs s h K →
    ∃ vs us s' h' g', (rs.mapM (resVar (tmOf a))).run P w = .ok us w ∧ us.length = vs.length ∧ us.length = rs.length ∧ Keeps w g w g' ∧ (∀ (j : Nat) (x : AV), vs[j]? = some x → Rep w g' x (us.getD j undef)) ∧ K vs s' h' ∧ R H w0 g0 s' h' g' a w
  | [], s, h, g, K, r, hK => ⟨[], [], s, h, g, by simp, rfl, rfl, Keeps.refl w g, by simp, hK, r⟩
  | .tmp t :: rs, s, h, g, K, r, hK => by
    obtain ⟨g1, r1, k1, p1⟩ := r.esc (.tmp t)
    obtain ⟨vs, us, s', h', g', h1, h2, h2', h3, h5, h6, h7⟩ := sound_results rs r1 hK
    refine ⟨_, tmOf a t :: us, s', h', g', ?_, by simp [h2], by simp [h2'], k1.trans h3, ?_, h6, h7⟩
    · simp [List.mapM_cons, resVar, h1]
    · intro j x hx
      cases j with
      | zero => simp only [List.getElem?_cons_zero, Option.some.injEq] at hx; subst hx; exact p1.keep h3
      | succ j => simp only [List.getElem?_cons_succ] at hx; simpa using h5 j x hx
  | .cell b t :: rs, s, h, g, K, r, hK => by
    obtain ⟨hm, -⟩ := r.mv (.tmp b)
    obtain ⟨ad, y, u, e1, e2, e3, e4⟩ := atPlace_load r hm hK
    obtain ⟨vs, us, s', h', g', h1, h2, h2', h3, h5, h6, h7⟩ := sound_results rs r e4
    refine ⟨_, u :: us, s', h', g', ?_, by simp [h2], by simp [h2'], h3, ?_, h6, h7⟩
    · have e1' : tmOf a b = .pointer (some ad) := e1
      simp [List.mapM_cons, resVar, e1', asAddr, e2, h1]
    · intro j x hx
      cases j with
      | zero => simp only [List.getElem?_cons_zero, Option.some.injEq] at hx; subst hx; simpa using e3.keep h3
      | succ j => simp only [List.getElem?_cons_succ] at hx; simpa using h5 j x hx

theorem sound_resO {a : Act} {w : World} : ∀ (i : Nat) (rs : List ResultVar) {s : Slots} {h : Heap} {g : Gh} {K : List AV → Slots → Heap → Prop}, R H w0 g0 s h g a w → awpResO P i rs s h K →
    ∃ vs us s' h' g', (rs.mapM (resVar (tmOf a))).run P w = .ok us w ∧ us.length = vs.length ∧ us.length = rs.length ∧ Keeps w g w g' ∧ (∀ (j : Nat) (x : AV), vs[j]? = some x → Rep w g' x (us.getD j undef)) ∧
      (∀ t, rs[i]? = some (.tmp t) → us.getD i undef = tmOf a t) ∧ K vs s' h' ∧ R H w0 g0 s' h' g' a w
  | i, [], s, h, g, K, r, hK => by
    simp only [awpResO] at hK
    exact ⟨[], [], s, h, g, by simp, rfl, rfl, Keeps.refl w g, by simp, by simp, hK, r⟩
  | 0, .tmp t :: rs, s, h, g, K, r, hK => by
    simp only [awpResO] at hK
    obtain ⟨vs, us, s', h', g', h1, h2, h2', h3, h5, h6, h7⟩ := sound_results rs r hK
    refine ⟨_, tmOf a t :: us, s', h', g', ?_, by simp [h2], by simp [h2'], h3, ?_, ?_, h6, h7⟩
    · simp [List.mapM_cons, resVar, h1]
    · intro j x hx
      cases j with
      | zero => simp only [List.getElem?_cons_zero, Option.some.injEq] at hx; subst hx; exact .any _
      | succ j => simp only [List.getElem?_cons_succ] at hx; simpa using h5 j x hx
    · intro t' ht
      simp only [List.getElem?_cons_zero, Option.some.injEq, ResultVar.tmp.injEq] at ht
      subst ht; rfl
  | i + 1, .tmp t :: rs, s, h, g, K, r, hK => by
    simp only [awpResO] at hK
    obtain ⟨g1, r1, k1, p1⟩ := r.esc (.tmp t)
    obtain ⟨vs, us, s', h', g', h1, h2, h2', h3, h5, h8, h6, h7⟩ := sound_resO i rs r1 hK
    refine ⟨_, tmOf a t :: us, s', h', g', ?_, by simp [h2], by simp [h2'], k1.trans h3, ?_, ?_, h6, h7⟩
    · simp [List.mapM_cons, resVar, h1]
    · intro j x hx
      cases j with
      | zero => simp only [List.getElem?_cons_zero, Option.some.injEq] at hx; subst hx; exact p1.keep h3
      | succ j => simp only [List.getElem?_cons_succ] at hx; simpa using h5 j x hx
    · intro t' ht
      simp only [List.getElem?_cons_succ] at ht
      simpa using h8 t' ht
  | i + 1, .cell b t :: rs, s, h, g, K, r, hK => by
    simp only [awpResO] at hK
    obtain ⟨hm, -⟩ := r.mv (.tmp b)
    obtain ⟨ad, y, u, e1, e2, e3, e4⟩ := atPlace_load r hm hK
    obtain ⟨vs, us, s', h', g', h1, h2, h2', h3, h5, h8, h6, h7⟩ := sound_resO i rs r e4
    refine ⟨_, u :: us, s', h', g', ?_, by simp [h2], by simp [h2'], h3, ?_, ?_, h6, h7⟩
    · have e1' : tmOf a b = .pointer (some ad) := e1
      simp [List.mapM_cons, resVar, e1', asAddr, e2, h1]
    · intro j x hx
      cases j with
      | zero => simp only [List.getElem?_cons_zero, Option.some.injEq] at hx; subst hx; simpa using e3.keep h3
      | succ j => simp only [List.getElem?_cons_succ] at hx; simpa using h5 j x hx
    · intro t' ht
      simp only [List.getElem?_cons_succ] at ht
      simpa using h8 t' ht
  | 0, .cell b t :: rs, s, h, g, K, r, hK => by simp [awpResO] at hK

theorem results_eq (fn : Func) (tm : Array Value) : results fn tm = (do
    let vs ← fn.results.toList.mapM (resVar fun i => tm.getD i undef)
    pure (if h : vs.toArray.size = 1 then vs.toArray[0] else .tuple vs.toArray)) := by
  unfold results
  rw [Array.mapM_eq_mapM_toList]
  simp only [bind_map_left]
  rfl

theorem sound_ret {fn : Func} {s : Slots} {h : Heap} {g : Gh} {a : Act} {w : World} {Q : AV → Heap → Prop} (r : R H w0 g0 s h g a w) (hK : awpRet P fn.results.toList s h Q) :
    ∃ x v h' g', (results fn a.tmps).run P w = .ok v w ∧ Q x h' ∧ ResRep w g' w0.heap.size x v ∧ HeapRep w g' h' ∧ g0.n ≤ g'.n ∧ (∀ i, i < g0.n → g'.loc i = g0.loc i) ∧
      (∀ b, b < w0.heap.size → g'.pub b = g0.pub b) ∧ (∀ i, i < g'.n → g0.n ≤ i → w0.heap.size ≤ g'.loc i) ∧ (∀ b, w.heap.size ≤ b → g'.pub b = 0) := by
  rw [results_eq]
  unfold awpRet at hK
  split at hK
  · rename_i t hrs
    unfold ret1 at hK
    split at hK
    · rename_i cs hs
      obtain ⟨g1, r1, k1, p1⟩ := r.promote hs
      exact ⟨.ptr h.length 0, a.tmps.getD t undef, _, g1, by simp [hrs, resVar], hK, p1, r1.heap, r1.n0, r1.loc0, r1.old, r1.loc1, r1.fresh⟩
    · obtain ⟨g1, r1, k1, p1⟩ := r.esc (.tmp t)
      refine ⟨_, a.tmps.getD t undef, _, g1, by simp [hrs, resVar], hK, ?_, r1.heap, r1.n0, r1.loc0, r1.old, r1.loc1, r1.fresh⟩
      have hsh := rep_shared p1
      generalize (esc s h (.tmp t)).1 = x at p1 hsh
      cases x <;> first | exact p1 | (cases hsh)
    · obtain ⟨h1, h2⟩ := r.tk (.tmp t)
      refine ⟨_, a.tmps.getD t undef, h, g, by simp [hrs, resVar], hK, ?_, r.heap, r.n0, r.loc0, r.old, r.loc1, r.fresh⟩
      generalize (tk s (.tmp t)).1 = x at h1 h2
      cases x with
      | own m e sz xs => exact ⟨h1, fun b hb => (h2 b hb).2⟩
      | box cs => exact .any _
      | alias k => exact .any _
      | place k off => exact .any _
      | elt k sz i off => exact .any _
      | iter id since seen c0 => exact .any _
      | otup i m e sz xs rest => exact .any _
      | part k i => exact .any _
      | _ => exact h1
  · rename_i b t hrs
    obtain ⟨hm, -⟩ := r.mv (.tmp b)
    obtain ⟨ad, y, u, e1, e2, e3, e4⟩ := atPlace_load r hm hK
    have e1' : a.tmps.getD b undef = .pointer (some ad) := e1
    refine ⟨y, u, h, g, ?_, e4, ?_, r.heap, r.n0, r.loc0, r.old, r.loc1, r.fresh⟩
    · rw [hrs]; simp only [List.mapM_cons, List.mapM_nil, resVar, e1', asAddr]; simp [e2]
    · cases y <;> first | exact e3 | cases e3
  · rename_i h1 h2
    obtain ⟨vs, us, s', h', g', a1, a2, hl, a3, a5, a6, r'⟩ := sound_results fn.results.toList r hK
    have hl1 : us.length ≠ 1 := by
      rw [hl]
      intro e
      obtain ⟨x, hx⟩ := List.length_eq_one_iff.1 e
      cases x with
      | tmp t => exact h1 t hx
      | cell b t => exact h2 b t hx
    refine ⟨_, .tuple us.toArray, h', g', ?_, a6, .tup (by simp [a2]) (fun j u hu => by simpa [Array.getD_eq_getD_getElem?, List.getD_eq_getElem?_getD] using a5 j u hu), r'.heap, r'.n0, r'.loc0, r'.old, r'.loc1, r'.fresh⟩
    simp only [Sem.run_bind]
    have a1' : (List.mapM (resVar fun i => a.tmps.getD i undef) fn.results.toList).run P w = .ok us w := a1
    rw [a1']
    simp [hl1]

theorem sound_retO {i : Nat} {fn : Func} {s : Slots} {h : Heap} {g : Gh} {a : Act} {w : World} {Q : AV → Heap → Prop} (r : R H w0 g0 s h g a w) (hK : awpRetO P i fn.results.toList s h Q) :
    ∃ x v h' g', (results fn a.tmps).run P w = .ok v w ∧ Q x h' ∧ ResRep w g' w0.heap.size x v ∧ HeapRep w g' h' ∧ g0.n ≤ g'.n ∧ (∀ i, i < g0.n → g'.loc i = g0.loc i) ∧
      (∀ b, b < w0.heap.size → g'.pub b = g0.pub b) ∧ (∀ i, i < g'.n → g0.n ≤ i → w0.heap.size ≤ g'.loc i) ∧ (∀ b, w.heap.size ≤ b → g'.pub b = 0) := by
  rw [results_eq]
  unfold awpRetO at hK
  split at hK
  · rename_i t hrs
    obtain ⟨hlen, hK⟩ := hK
    obtain ⟨vs, us, s', h', g', a1, a2, hl, a3, a5, a8, a6, r'⟩ := sound_resO i fn.results.toList r hK
    have hl1 : us.length ≠ 1 := by omega
    have hrun : ∀ v, v = Value.tuple us.toArray → ((do
        let vs ← fn.results.toList.mapM (resVar fun i => a.tmps.getD i undef)
        pure (if h : vs.toArray.size = 1 then vs.toArray[0] else .tuple vs.toArray)) : Sem Value).run P w = .ok v w := fun v hv => by
      simp only [Sem.run_bind]
      have a1' : (List.mapM (resVar fun i => a.tmps.getD i undef) fn.results.toList).run P w = .ok us w := a1
      rw [a1']
      simp [hl1, hv]
    have hrep : ∀ (j : Nat) (u : AV), vs[j]? = some u → Rep w g' u (us.toArray.getD j undef) := fun j u hu => by
      simpa [Array.getD_eq_getD_getElem?, List.getD_eq_getElem?_getD] using a5 j u hu
    have hgi : us.toArray.getD i undef = tmOf a t := by
      have := a8 t hrs
      simpa [Array.getD_eq_getD_getElem?, List.getD_eq_getElem?_getD] using this
    obtain ⟨h1, h2⟩ := r'.tk (.tmp t)
    have h1' : slotRep w g' w0.heap.size (tmOf a) (Vm.tk s' (.tmp t)).1 (tmOf a t) := h1
    have h2' : ∀ b, privB (Vm.tk s' (.tmp t)).1 (tmOf a t) = some b → (∀ i, privB ((Vm.tk s' (.tmp t)).2 i) (tmOf a i) ≠ some b) ∧ ∀ k, k < g'.n → g'.loc k ≠ b := h2
    generalize (Vm.tk s' (.tmp t)).1 = x at h1' h2' a6
    have other : ∀ x, Rep w g' (val x) (tmOf a t) → Q (.tup (vs.set i (val x))) h' → ∃ x v h' g', ((do
        let vs ← fn.results.toList.mapM (resVar fun i => a.tmps.getD i undef)
        pure (if h : vs.toArray.size = 1 then vs.toArray[0] else .tuple vs.toArray)) : Sem Value).run P w = .ok v w ∧ Q x h' ∧ ResRep w g' w0.heap.size x v ∧ HeapRep w g' h' ∧ g0.n ≤ g'.n ∧ (∀ i, i < g0.n → g'.loc i = g0.loc i) ∧
      (∀ b, b < w0.heap.size → g'.pub b = g0.pub b) ∧ (∀ i, i < g'.n → g0.n ≤ i → w0.heap.size ≤ g'.loc i) ∧ (∀ b, w.heap.size ≤ b → g'.pub b = 0) := fun x hx hq => by
      refine ⟨_, .tuple us.toArray, h', g', hrun _ rfl, hq, .tup (by simp [a2]) (fun j u hu => ?_), r'.heap, r'.n0, r'.loc0, r'.old, r'.loc1, r'.fresh⟩
      rw [List.getElem?_set] at hu
      split at hu
      · rename_i hij
        subst hij
        split at hu
        · simp only [Option.some.injEq] at hu; subst hu; rw [hgi]; exact hx
        · cases hu
      · exact hrep j u hu
    cases x with
    | own m e sz xs =>
      refine ⟨.otup i m e sz xs vs, .tuple us.toArray, h', g', hrun _ rfl, a6, ⟨⟨us.toArray, rfl, by simp [a2], hrep, by rw [hgi]; exact h1'⟩, fun b hb k hk => ?_⟩, r'.heap, r'.n0, r'.loc0, r'.old, r'.loc1, r'.fresh⟩
      have hb' : (us.toArray.getD i undef).ownBlock = some b := hb
      rw [hgi] at hb'
      exact (h2' b hb').2 k hk
    | box cs => exact other (.box cs) (.any _) a6
    | alias k => exact other (.alias k) (.any _) a6
    | place k off => exact other (.place k off) (.any _) a6
    | elt k sz i off => exact other (.elt k sz i off) (.any _) a6
    | iter id since seen c0 => exact other (.iter id since seen c0) (.any _) a6
    | otup i m e sz xs rest => exact other (.otup i m e sz xs rest) (.any _) a6
    | part k i => exact other (.part k i) (.any _) a6
    | v x => exact other (.v x) (rep_val h1') a6
    | sl sz xs => exact other (.sl sz xs) (rep_val h1') a6
    | agg cs => exact other (.agg cs) (rep_val h1') a6
    | tup cs => exact other (.tup cs) (rep_val h1') a6
    | eptr cs => exact other (.eptr cs) (rep_val h1') a6
    | ptr id off => exact other (.ptr id off) (rep_val h1') a6
    | mp id => exact other (.mp id) (rep_val h1') a6
    | clo f cs => exact other (.clo f cs) (rep_val h1') a6
    | osl id off n c => exact other (.osl id off n c) (rep_val h1') a6
    | any => exact other .any (.any _) a6
  · exact hK.elim

theorem init_get (args : List AV) (i : Nat) : init args i = (args[i]?).getD .any := rfl

theorem does_of_ret {Rt : Slots → Heap → (AV → Heap → Prop) → Prop} {f : FuncId} {fn : Func} {c : Code} {S : Spec} (hT : ∀ f S, T f = some S → Does P f S) (hf : P.funcs[f]? = some fn) (hb : fn.body = some c)
    (hn : (fn.name == "runtime.NumGoroutine") = false) (hd : dstsOk fn.ntmps c = true)
    (hR : ∀ {w0 : World} {g0 : Gh} {H : Hst} {s : Slots} {h : Heap} {g : Gh} {a : Act} {w : World} {Q : AV → Heap → Prop}, R H w0 g0 s h g a w → Rt s h Q →
      ∃ x v h' g', (results fn a.tmps).run P w = .ok v w ∧ Q x h' ∧ ResRep w g' w0.heap.size x v ∧ HeapRep w g' h' ∧ g0.n ≤ g'.n ∧ (∀ i, i < g0.n → g'.loc i = g0.loc i) ∧
        (∀ b, b < w0.heap.size → g'.pub b = g0.pub b) ∧ (∀ i, i < g'.n → g0.n ≤ i → w0.heap.size ≤ g'.loc i) ∧ (∀ b, w.heap.size ≤ b → g'.pub b = 0))
    (hS : ∀ args h Q, S args h Q → args.length ≤ fn.ntmps ∧ awp P T c (init args) h fun o s h' => endO o (Rt s h' Q)) : Does P f S := by
  refine ⟨⟨fn, hf, by rw [hb]; rfl, hn⟩, fun args h Q hSQ w g vs hvs hrep hh hfr hlaid => ?_⟩
  obtain ⟨hlen, haw⟩ := hS args h Q hSQ
  refine calls_of_wp hf hb ?_
  have htm : ∀ i, (vs ++ Array.replicate (fn.ntmps - vs.size) undef).getD i undef = vs.getD i undef := by
    intro i
    simp only [Array.getD_eq_getD_getElem?]
    by_cases hi : i < vs.size
    · rw [Array.getElem?_append_left hi]
    · rw [Array.getElem?_append_right (by omega), Array.getElem?_eq_none (xs := vs) (by omega)]
      by_cases h2 : i - vs.size < fn.ntmps - vs.size
      · simp [h2]
      · simp [h2]
  have hrep' : ∀ i, Rep w g (init args i) ((vs ++ Array.replicate (fn.ntmps - vs.size) undef).getD i undef) := by
    intro i
    rw [htm, init_get]
    cases hi : args[i]? with
    | none => exact .any _
    | some u => exact hrep i u hi
  have r : R ⟨w, g⟩ w g (init args) h g { tmps := vs ++ Array.replicate (fn.ntmps - vs.size) undef, defers := [] } w := by
    refine ⟨rfl, fun i => slotRep_of_rep (rep_shared (hrep' i)) (hrep' i), fun i j b hi _ => ?_, fun i b hi => ?_, hh, ⟨rfl, rfl, rfl, Nat.le_refl _, fun _ _ _ => rfl⟩, Nat.le_refl _, fun _ _ => rfl, fun _ _ => rfl, fun i hi h0 => by omega, hfr, hlaid, Keeps.refl w g⟩
    · rw [privB_shared (rep_shared (hrep' i))] at hi; cases hi
    · rw [privB_shared (rep_shared (hrep' i))] at hi; cases hi
  have hs := sound (N := fn.ntmps) hT c hd r (by simp; omega) haw
  refine wp_mono hs ?_
  have ret : ∀ (a : Act) (w' : World), Done fn.ntmps ⟨w, g⟩ w g (fun s h' => Rt s h' Q) a w' → bodyPost P fn (fun e w' => ∃ r h' g' v, Q r h' ∧ e = .returned v ∧ ResRep w' g' w.heap.size r v ∧ HeapRep w' g' h' ∧ Frame w g w' ∧
      g.n ≤ g'.n ∧ (∀ i, i < g.n → g'.loc i = g.loc i) ∧ (∀ b, b < w.heap.size → g'.pub b = g.pub b) ∧ (∀ i, i < g'.n → g.n ≤ i → w.heap.size ≤ g'.loc i) ∧
      (∀ b, w'.heap.size ≤ b → g'.pub b = 0)) .ret a w' := by
    rintro a w' ⟨s, h', g', hk, r', -⟩
    obtain ⟨x, v, h2, g2, b1, b2, b3, b4, b5, b6, b7, b8, b9⟩ := hR r' hk
    exact ⟨r'.defers, v, b1, x, h2, g2, v, b2, rfl, b3, b4, r'.frame, b5, b6, b7, b8, b9⟩
  intro e a w' hq
  cases e with
  | normal => exact ret a w' hq
  | ret => exact ret a w' hq
  | exit id => obtain ⟨s, h', g', hk, -⟩ := hq; exact hk.elim
  | _ => exact hq.elim

/-- A function's contract, by the interpreter. -/
theorem does_of_awp {f : FuncId} {fn : Func} {c : Code} {S : Spec} (hT : ∀ f S, T f = some S → Does P f S) (hf : P.funcs[f]? = some fn) (hb : fn.body = some c)
    (hn : (fn.name == "runtime.NumGoroutine") = false) (hd : dstsOk fn.ntmps c = true)
    (hS : ∀ args h Q, S args h Q → args.length ≤ fn.ntmps ∧ awpFunc P T fn args h Q) : Does P f S :=
  does_of_ret (Rt := fun s h Q => awpRet P fn.results.toList s h Q) hT hf hb hn hd sound_ret fun args h Q hs => by
    have := hS args h Q hs
    unfold awpFunc at this
    rw [hb] at this
    exact this

/-- .. of whose results one may be a slice of its own. -/
theorem does_of_awpO (i : Nat) {f : FuncId} {fn : Func} {c : Code} {S : Spec} (hT : ∀ f S, T f = some S → Does P f S) (hf : P.funcs[f]? = some fn) (hb : fn.body = some c)
    (hn : (fn.name == "runtime.NumGoroutine") = false) (hd : dstsOk fn.ntmps c = true)
    (hS : ∀ args h Q, S args h Q → args.length ≤ fn.ntmps ∧ awpFuncO P T i fn args h Q) : Does P f S :=
  does_of_ret (Rt := fun s h Q => awpRetO P i fn.results.toList s h Q) hT hf hb hn hd sound_retO fun args h Q hs => by
    have := hS args h Q hs
    unfold awpFuncO at this
    rw [hb] at this
    exact this

end
end Go.Vm
