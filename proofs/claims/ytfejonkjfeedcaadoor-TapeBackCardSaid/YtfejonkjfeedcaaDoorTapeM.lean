/- tape.Read: a range over the pieces. -/
import Derived.Test.YtfejonkjfeedcaaDoorTapeL
set_option linter.unusedSimpArgs false
set_option linter.unusedVariables false
namespace Go.Proofs
open Go.Vm Go.RowKit Go.Shelf
attribute [local go_sem] Oper.semAt_some

/-- 'append', by a name of its own: so that what is known of one append is used as it stands. -/
def appSem (ats : Array TypeId) (ty : TypeId) (args : Array Value) : Sem Next := do pure (.value (← Builtin.append_ ats ty args))
theorem builtin_appSem (ats : Array TypeId) (ty : TypeId) (cs : Array Bool) (args : Array Value) : builtin .append ats ty cs args = appSem ats ty args := rfl
theorem run_appSem {P : Program} {ats : Array TypeId} {ty : TypeId} {args : Array Value} {w w' : World} {v : Value} (h : (Builtin.append_ ats ty args).run P w = .ok v w') : (appSem ats ty args).run P w = .ok (.value v) w' := by
  unfold appSem
  simp only [Sem.run_bind, Sem.run_pure, Result.andThen_ok, h]
attribute [local go_sem ↓ 2000] builtin_appSem
attribute [local irreducible] appSem

theorem cloneC {w : World} {g : Gh} {sv : Value} {b : List UInt8} (hr : Rep w g (.sl 1 (b.map encB)) sv) (hc : Calm w g) (hl : b.length ≤ 35184372) :
    Calls Tryd.prog 16 #[sv] w fun e w' => ∃ v g', e = .returned v ∧ Rep w' g' (.sl 1 (b.map encB)) v ∧ Below w.heap.size w w' ∧ Keeps w g w' g' ∧ Calm w' g' ∧ (∀ k, k < w.heap.size → g'.pub k = g.pub k) := by
  have key := does_clone.2 [.sl 1 (b.map encB)] [] (fun q h => (q = .own true 5 1 (b.map encB) ∨ (b = [] ∧ q = .v (.slice none 0 0))) ∧ h = []) ⟨b, by omega, rfl, fun v hv => ⟨hv, rfl⟩⟩ w g #[sv] rfl (fun j u hu => by
    rcases j with _ | j
    · simp at hu; subst hu; exact hr
    · simp at hu) hc.heap hc.fresh hc.laid
  refine key.mono ?_
  rintro e w' ⟨r, h', g', v, ⟨hq, rfl⟩, rfl, hres, hh, hfr, hn, hloc, hold, hnew, hfresh⟩
  have hbl : Below w.heap.size w w' := ⟨hfr.os, hfr.tape, hfr.output, hfr.size, fun k hk => hfr.block k hk fun i hi => absurd hi (by rw [hc.n]; exact Nat.not_lt_zero _)⟩
  have hk : Keeps w g w' g' := by
    have h1 := keeps_below hc.fresh hbl
    refine ⟨fun b => ?_, h1.cell, hn, hloc⟩
    rcases Nat.lt_or_ge b w.heap.size with h | h
    · rw [hold b h]; exact Nat.le_refl _
    · rw [hc.fresh b h]; exact Nat.zero_le _
  have hn' : g'.n = 0 := hh.n.symm
  rcases hq with rfl | ⟨rfl, rfl⟩
  · obtain ⟨hown, -⟩ := hres
    obtain ⟨g2, k2, r2, n2, f2, o2⟩ := own_open hown hfresh
    exact ⟨v, g2, rfl, r2, hbl, hk.trans k2, ⟨n2.trans hn', f2, fun i cs hi => (hc.laid i cs hi).keep (hk.trans k2)⟩, fun k hk' => (o2 k hk').trans (hold k hk')⟩
  · have h3 : Rep w' g' (.v (.slice none 0 0)) v := hres
    cases h3
    exact ⟨_, g', rfl, .nil 1, hbl, hk, ⟨hn', hfresh, fun i cs hi => (hc.laid i cs hi).keep hk⟩, hold⟩

theorem pieces_in (n : Nat) (a : Option Addr) (len cap : Nat) (w : World) :
    CallsIn Fence.wide n Tryd.prog 24 #[.slice a len cap] w fun e w' => e = .returned (.func (.func 36) #[] #[.pointer (some ⟨w.heap.size, 0, none⟩)]) ∧ w' = w.alloc (.cells #[.slice a len cap] 22) := by
  refine callsIn_of_wp Tryd.func24 rfl trivial ?_ rfl
  simp only [Tryd.ntmps24, List.size_toArray, List.length_cons, List.length_nil, Nat.reduceAdd, Nat.reduceSub, Array.replicate_succ, Array.replicate_zero, List.push_toArray, List.append_toArray, List.nil_append, List.cons_append]
  gi_wp2
  go_ret
  exact ⟨rfl, rfl⟩

theorem info22 : (Tryd.prog.info? 22).map (fun i => (i.zero, i.size, i.bytes)) = some (some (.slice none 0 0), 1, 24) := by kernel_rfl

/-- Between two rounds. -/
def ReadJ (w : World) (g : Gh) (B : Nat) (pre : List (Pc w g)) (v : Value) (W : World) : Prop :=
  ∃ g', Boxed W B 27 v ∧ Boxed W (B + 1) 3 (.int .i64 (lastAt pre : Int)) ∧ OwnRep W g' B true 22 1 ((bys pre).map encL) v ∧ Keeps w g W g' ∧ Calm W g' ∧
    (∀ k, k < B → g'.pub k = g.pub k) ∧ g'.pub B = 0 ∧ g'.pub (B + 1) = 0 ∧ g'.pub (B + 2) = 0 ∧ Below w.heap.size w W ∧ v.ownBlock ≠ some (B + 2) ∧ B + 3 ≤ W.heap.size

def ReadI (w : World) (g : Gh) (B : Nat) (pre : List (Pc w g)) (W : World) : Prop := ∃ v, ReadJ w g B pre v W

theorem keeps_grown {W W' : World} {row : Option Nat} {g : Gh} (hg : W.grownBy W' row) (hr : ∀ r, row = some r → ∃ o : Obj, W.heap[r]? = some o ∧ o.isCells = false) : Keeps W g W' g :=
  ⟨fun _ => Nat.le_refl _, fun b j v _ hv => cell_kept hv hg hr, Nat.le_refl _, fun _ _ => rfl⟩
theorem Calm.grown {W W' : World} {row : Option Nat} {g : Gh} (h : Calm W g) (hg : W.grownBy W' row) (hr : ∀ r, row = some r → ∃ o : Obj, W.heap[r]? = some o ∧ o.isCells = false) : Calm W' g :=
  ⟨h.n, fun b hb => h.fresh b (Nat.le_trans hg.size hb), fun i cs hi => (h.laid i cs hi).keep (keeps_grown hg hr)⟩

theorem readJ_own (w : World) (g : Gh) (B : Nat) (n : Nat) (hn : B + 3 ≤ n) (hB : w.heap.size = B) {s : List (Pc w g)} {v : Value} {W W' : World} {row : Option Nat} (hI : ReadJ w g B s v W) (hg : W.grownBy W' row)
    (hr : ∀ r, row = some r → n ≤ r ∧ ∃ o : Obj, W.heap[r]? = some o ∧ o.isCells = false) : ReadJ w g B s v W' := by
  obtain ⟨g', hv, hb, hown, hk, hc, hpub, hp0, hp1, hp2, hbel, hvo, hsz⟩ := hI
  have hr' : ∀ r, row = some r → ∃ o : Obj, W.heap[r]? = some o ∧ o.isCells = false := fun r e => (hr r e).2
  have hne : ∀ b, b < n → some b ≠ row := fun b hb e => by have := (hr b e.symm).1; omega
  have hkg := keeps_grown (g := g') hg hr'
  refine ⟨g', hv.kept hg (hne B (by omega)), hb.kept hg (hne (B + 1) (by omega)), hown.keepAt hkg (fun b hb => ?_), hk.trans hkg, hc.grown hg hr', hpub, hp0, hp1, hp2, hbel.grown hg hbel.size (fun k e => by have := (hr k e).1; omega), hvo, Nat.le_trans hsz hg.size⟩
  obtain ⟨-, -, vs, hrow, -⟩ := hown
  rcases hrow.2 with ⟨rfl, -⟩ | ⟨gb, cap, cur, rfl, -, a2, -⟩
  · cases hb
  · simp only [Value.ownBlock, Option.some.injEq] at hb
    subst hb
    refine ⟨hg.block gb (lt_of_heap a2) (fun e => ?_), rfl⟩
    obtain ⟨o, ho, hoc⟩ := hr' gb e.symm
    rw [a2] at ho; cases ho; cases hoc

theorem readI_own (w : World) (g : Gh) (B : Nat) (n : Nat) (hn : B + 3 ≤ n) (hB : w.heap.size = B) : OwnFrom n (ReadI w g B) :=
  fun _ _ _ _ ⟨v, hI⟩ hg hr => ⟨v, readJ_own w g B n hn hB hI hg hr⟩

/-- Where an append leaves its row: in the block that it was, or in a new one. -/
theorem append_where (w : World) (base : Nat) (i : TypeInfo) (hi : Tryd.prog.info? 22 = some i) (hz : i.zero = some (.slice none 0 0)) (hs : i.size = 1) (hb : i.bytes = 24) (v : Value) (n : Nat) (xs : List Value) (hown : w.ownsRow base 22 1 v n xs)
    (a : Addr) (u : Value) (hu : w.cell? a = some u) (h1 : u.oneCell' = true) (h63 : n + 1 ≤ maxLen) (hby : (n + 1) * 24 ≤ 140737488355328)
    {v2 : Value} {w2 : World} (hr : (Builtin.append_ #[27, 27] 27 #[v, .slice (some a) 1 1]).run Tryd.prog w = .ok v2 w2) :
    ∀ k, v2.ownBlock = some k → v.ownBlock = some k ∨ w.heap.size ≤ k := by
  have hsmall : n + 1 ≤ 9223372036854775807 := by simp only [maxLen] at h63; omega
  have hnews : ∀ j x, [u][j]? = some x → w.cell? (a.add j) = some x := fun j x hx => by
    rcases j with _ | j
    · simp at hx; subst hx; simpa [Addr.add] using hu
    · simp at hx
  intro k hk
  rcases hown.2 with ⟨rfl, rfl⟩ | ⟨g, cap, cur, rfl, hbg, hg, hnc, hcm, hcs, htake⟩
  · have e := run_append_nil (P := Tryd.prog) w 27 27 22 i (.slice none 0 0) Tryd.underlying27 hi hz a 1 1 [u] (by simp [hs]) hnews (by decide) (by decide) (by rw [hb]; decide)
    rw [hr] at e
    simp only [Result.ok.injEq] at e
    rw [e.1] at hk
    simp only [Value.ownBlock, Option.some.injEq] at hk
    exact .inr (by omega)
  · by_cases hroom : n + 1 ≤ cap
    · have e := run_append_room (P := Tryd.prog) w 27 27 22 i Tryd.underlying27 hi g n cap cur hg a 1 1 [u] (by simp [hs]) hnews (by simpa using h1) hroom (by rw [hs, hcs]; simp; omega)
      rw [hr] at e
      simp only [Result.ok.injEq] at e
      rw [e.1] at hk
      exact .inl hk
    · have e := run_append_grow (P := Tryd.prog) w 27 27 22 i (.slice none 0 0) Tryd.underlying27 hi hz ⟨g, 0, none⟩ n cap xs (by rw [hs]; exact hown.1) (hown.cells (g := g) rfl) a 1 1 [u] (by simp [hs]) hnews (by omega) (by omega) (growslice_fits (by omega) (by rw [hb]; exact hby))
      rw [hr] at e
      simp only [Result.ok.injEq] at e
      rw [e.1] at hk
      simp only [Value.ownBlock, Option.some.injEq] at hk
      exact .inr (by omega)

/-- A round: what it leaves. -/
theorem readI_step {w W w1 w2 : World} {g g' g1 : Gh} {B n : Nat} {pre : List (Pc w g)} {x : Pc w g} {v v2 cv : Value} {vs : List Value} (hB : w.heap.size = B) (hn : n = B + 3)
    (hv : Boxed W B 27 v) (hb : Boxed W (B + 1) 3 (.int .i64 (lastAt pre : Int))) (hrow : W.ownsRow B 22 1 v pre.length vs) (hone : ∀ u ∈ vs, u.oneCell' = true)
    (hreps : ∀ j u, (flat ((bys pre).map encL))[j]? = some u → Rep W g' u (vs.getD j undef)) (hpv : ∀ b, v.ownBlock = some b → g'.pub b = 0) (hk : Keeps w g W g') (hc : Calm W g')
    (hpub : ∀ k, k < B → g'.pub k = g.pub k) (hp0 : g'.pub B = 0) (hp1 : g'.pub (B + 1) = 0) (hp2 : g'.pub (B + 2) = 0) (hbel : Below w.heap.size w W) (hsz : B + 3 ≤ W.heap.size)
    (hr1 : Rep w1 g1 (.sl 1 (x.bytes.map encB)) cv) (hcv : cv.oneCell' = true) (bl1 : Below W.heap.size W w1) (k1 : Keeps W g' w1 g1) (c1 : Calm w1 g1) (o1 : ∀ k, k < W.heap.size → g1.pub k = g'.pub k)
    (hrow1 : w1.ownsRow B 22 1 v pre.length vs) (hown' : w2.ownsRow B 22 1 v2 (pre.length + 1) (vs ++ [cv])) (hgrow : (w1.alloc (.cells #[cv] 22)).grownBy w2 v.ownBlock)
    (hvo : v.ownBlock ≠ some (B + 2)) (hwhere : ∀ k, v2.ownBlock = some k → v.ownBlock = some k ∨ w1.heap.size + 1 ≤ k) :
    KeepsFrom n W ((w2.setCell ⟨B, 0, none⟩ v2).setCell ⟨B + 1, 0, none⟩ (.int .i64 (x.1.1 : Int))) ∧ Kb B (B + 1 + 1) W ((w2.setCell ⟨B, 0, none⟩ v2).setCell ⟨B + 1, 0, none⟩ (.int .i64 (x.1.1 : Int))) ∧
      ReadI w g B (pre ++ [x]) ((w2.setCell ⟨B, 0, none⟩ v2).setCell ⟨B + 1, 0, none⟩ (.int .i64 (x.1.1 : Int))) := by
  have hv1 : Boxed w1 B 27 v := (bl1.block _ hv.lt).trans hv
  have hb1 : Boxed w1 (B + 1) 3 _ := (bl1.block _ hb.lt).trans hb
  obtain ⟨hvA, hvB, hrB, hkB, hbB⟩ := hv1.appended (by decide) hrow1 (by rw [← hB]; exact Nat.le_trans hbel.size bl1.size) (Nat.le_refl _) hown' hgrow
  have hb2 := (hb1.alloc (.cells #[cv] 22)).kept hgrow (hb1.not_row (by decide) hrow1)
  have gs1 := grownBy_setCell' w2 B v2
  have gs2 := grownBy_setCell' (w2.setCell ⟨B, 0, none⟩ v2) (B + 1) (.int .i64 (x.1.1 : Int))
  have hb3 := hb2.kept gs1 (by simp)
  have hbF := hb3.set (.int .i64 (x.1.1 : Int))
  have hvF := hvB.kept gs2 (by simp)
  have hrF := hrB.kept gs2 (.inr (hb3.not_row (by decide) hrB).symm)
  have hsz1 := bl1.size
  have hsz2 : w1.heap.size + 1 ≤ w2.heap.size := by have := hgrow.size; simpa using this
  have hsz3 := gs1.size
  have hsz4 := gs2.size
  have hko : KeepsOthers W ((w2.setCell ⟨B, 0, none⟩ v2).setCell ⟨B + 1, 0, none⟩ (.int .i64 (x.1.1 : Int))) :=
    ((⟨bl1.size, fun j o h _ => (bl1.block j (lt_of_heap h)).trans h⟩ : KeepsOthers W w1).trans hkB).trans (KeepsOthers.setCell _ _ _)
  have hbe : Below w.heap.size W ((w2.setCell ⟨B, 0, none⟩ v2).setCell ⟨B + 1, 0, none⟩ (.int .i64 (x.1.1 : Int))) :=
    ((bl1.mono hbel.size).trans (hB ▸ hbB)).trans ((Below.refl _ _).setCell (p := ⟨B + 1, 0, none⟩) (by simp; omega) _)
  have hblk : ∀ b, b < w1.heap.size → b ≠ B → b ≠ B + 1 → v.ownBlock ≠ some b → ((w2.setCell ⟨B, 0, none⟩ v2).setCell ⟨B + 1, 0, none⟩ (.int .i64 (x.1.1 : Int))).heap[b]? = w1.heap[b]? := fun b h1 h2 h3 h4 => by
    have e1 := Below.heap_setCell (w2.setCell ⟨B, 0, none⟩ v2) ⟨B + 1, 0, none⟩ (.int .i64 (x.1.1 : Int)) b h3
    have e2 := Below.heap_setCell w2 ⟨B, 0, none⟩ v2 b h2
    have e3 := hgrow.block b (by simp; omega) (fun e => h4 e.symm)
    have e4 := heap_alloc_old w1 (.cells #[cv] 22) h1
    exact e1.trans (e2.trans (e3.trans e4))
  generalize hWF : (w2.setCell ⟨B, 0, none⟩ v2).setCell ⟨B + 1, 0, none⟩ (.int .i64 (x.1.1 : Int)) = WF at *
  have hvo2 : v2.ownBlock ≠ some (B + 2) := fun e => by
    rcases hwhere _ e with h | h
    · exact hvo h
    · omega
  have hp : ∀ b, b < W.heap.size → (b = B ∨ b = B + 1 ∨ v.ownBlock = some b) → g1.pub b = 0 := fun b h1 h2 => by
    rw [o1 b h1]
    rcases h2 with rfl | rfl | h2
    · exact hp0
    · exact hp1
    · exact hpv b h2
  have hvlt : ∀ b, v.ownBlock = some b → b < W.heap.size := fun b hb => by
    rcases hrow.2 with ⟨rfl, -⟩ | ⟨gb, cap, cur, rfl, -, a2, -⟩
    · cases hb
    · simp only [Value.ownBlock, Option.some.injEq] at hb; subst hb; exact lt_of_heap a2
  have kF : Keeps w1 g1 WF g1 := ⟨fun _ => Nat.le_refl _, fun b j u hj hu => by
    have hlt : b < w1.heap.size := by
      rcases Nat.lt_or_ge b w1.heap.size with h | h
      · exact h
      · rw [c1.fresh b h] at hj; omega
    have n0 : ¬ (b = B ∨ b = B + 1 ∨ v.ownBlock = some b) := fun h => by
      have hbW : b < W.heap.size := by
        rcases h with rfl | rfl | h
        · omega
        · omega
        · exact hvlt b h
      rw [hp b hbW h] at hj; omega
    exact (World.cell?_of_block (a := ⟨b, j, none⟩) (hblk b hlt (fun e => n0 (.inl e)) (fun e => n0 (.inr (.inl e))) (fun e => n0 (.inr (.inr e))))).trans hu, Nat.le_refl _, fun _ _ => rfl⟩
  refine ⟨hko.from n, ⟨by rw [← hB]; exact hbe, ?_⟩, v2, g1, hvF, by rw [lastAt_snoc]; exact hbF, ?_, (hk.trans k1).trans kF, ⟨c1.n, fun b hb => c1.fresh b (by omega), fun i cs hi => (c1.laid i cs hi).keep kF⟩, fun k hk' => (o1 k (by omega)).trans (hpub k hk'), (o1 _ (by omega)).trans hp0, (o1 _ (by omega)).trans hp1, (o1 _ (by omega)).trans hp2, hbel.trans hbe, hvo2, by omega⟩
  · exact (hblk (B + 1 + 1) (by omega) (by omega) (by omega) hvo).trans (bl1.block _ (by omega))
  · have hlen : ((bys (pre ++ [x])).map encL).length = pre.length + 1 := by simp [bys]
    have hvl : vs.length = pre.length := by have := hrow.1; omega
    have hfl : ∀ l : List (List UInt8), flat (l.map encL) = l.map encL := fun l => by
      induction l with
      | nil => rfl
      | cons y ys ih => simp only [flat, List.map_cons, List.flatMap_cons] at ih ⊢; rw [ih]; rfl
    refine ⟨by decide, fun y hy => ?_, vs ++ [cv], by rw [hlen]; exact hrF, fun u hu => ?_, fun j u hu => ?_, fun b hb => ?_⟩
    · obtain ⟨z, -, rfl⟩ := List.mem_map.1 hy; rfl
    · rcases List.mem_append.1 hu with hu | hu
      · exact hone u hu
      · simp at hu; subst hu; exact hcv
    · rw [hfl, bys_snoc, List.map_append] at hu
      rcases Nat.lt_or_ge j pre.length with hj | hj
      · rw [List.getElem?_append_left (by simpa [bys] using hj)] at hu
        have h1 := (hreps j u (by rw [hfl]; exact hu)).keep (k1.trans kF)
        have e : (vs ++ [cv]).getD j undef = vs.getD j undef := by simp only [List.getD_eq_getElem?_getD]; rw [List.getElem?_append_left (by omega)]
        rw [e]; exact h1
      · rw [List.getElem?_append_right (by simpa [bys] using hj)] at hu
        have hj0 : j = pre.length := by
          rcases Nat.lt_or_ge (j - ((bys pre).map encL).length) 1 with h | h
          · simp [bys] at h; omega
          · rw [List.getElem?_eq_none (by simpa using h)] at hu; cases hu
        subst hj0
        have e : (vs ++ [cv]).getD pre.length undef = cv := by simp only [List.getD_eq_getElem?_getD]; rw [List.getElem?_append_right (by omega)]; simp [hvl]
        rw [e]
        simp [bys] at hu
        subst hu
        exact hr1.keep kF
    · simp only [if_true]
      rcases hwhere b hb with h | h
      · have := hp b (hvlt b h) (.inr (.inr h)); omega
      · have := c1.fresh b (by omega); omega

theorem pieces_stops (n : Nat) (hn : 1 ≤ n) (Bs n₀ : Nat) (w0 W0 : World) (g : Gh) (t : List UInt8) (a : Option Addr) (cap : Nat) (htl : t.length ≤ 35184372) (hr : Rep w0 g (.sl 1 (t.map encB)) (.slice a t.length cap)) (hc : Calm w0 g)
    (hn0 : w0.heap.size = n₀) (hW0 : Below w0.heap.size w0 W0) (hBs0 : Bs < W0.heap.size) (hBs : W0.cell? ⟨Bs, 0, none⟩ = some (.slice a t.length cap)) :
    SeqStopsK Fence.wide n Tryd.prog 36 #[.pointer (some ⟨Bs, 0, none⟩)] (fun x : Pc w0 g => #[.int .i64 (x.1.1 : Int), x.1.2.1]) (Kb n₀ Bs) (AllOf t) (fun _ => True) t.length W0 := fun l J Jx W hW hJ hJx hY h0 => by
  have hJb : ∀ pre W1 W2, J pre W1 → Below W1.heap.size W1 W2 → J pre W2 := fun pre W1 W2 h1 h2 => hJ pre W1 W2 none h1 ⟨h2.os, h2.tape, h2.output, h2.size, fun k hk _ => h2.block k hk⟩ (fun r e => by cases e)
  have hWW : Below w0.heap.size w0 W := hW0.trans (hW.mono hW0.size)
  have hBs' : W.cell? ⟨Bs, 0, none⟩ = some (.slice a t.length cap) := (hW.cell (p := ⟨Bs, 0, none⟩) hBs0).trans hBs
  by_cases ht : 0 < t.length
  · obtain ⟨b0, o0, rfl, -, hcap, hcm⟩ := bytes_addr hr ht
    exact pieces1_some n hn l Bs n₀ b0 o0 cap w0 g t ht htl hr hc (by omega) hcap (by unfold maxLen at hcm; omega) J Jx hY W hWW (Nat.lt_of_lt_of_le hBs0 hW.size) hBs' (by rw [← hn0]; exact hWW.size) hJb h0
  · have ht0 : t = [] := List.eq_nil_of_length_eq_zero (by omega)
    subst ht0
    refine pieces1_none n hn l Bs n₀ (.slice a 0 cap) w0 g hc ?_ J Jx W hWW hBs' hJb h0
    simp only [List.length_nil, List.map_nil] at hr
    generalize hv : Value.slice a 0 cap = v at hr ⊢
    cases hr with
    | nil => exact .inl rfl
    | empty _ ad c hc => exact .inr ⟨ad, _, rfl, by unfold maxLen at hc; omega⟩
    | sl vs h1 h2 => exact .inr ⟨_, _, rfl, by unfold maxLen at h2; omega⟩

end Go.Proofs
