/- tape.Read: a range over the pieces. -/
import Derived.Test.YtfejonkjfeedcaaDoorTapeM
set_option linter.unusedSimpArgs false
set_option linter.unusedVariables false
namespace Go.Proofs
open Go.Vm Go.RowKit Go.Shelf
attribute [local go_sem] Oper.semAt_some
attribute [local go_sem ↓ 2000] builtin_appSem
attribute [local irreducible] appSem

set_option maxRecDepth 100000 in
set_option maxHeartbeats 4000000 in
theorem read_in (w : World) (g : Gh) (t : List UInt8) (a : Option Addr) (cap : Nat) (htl : t.length ≤ 35184372) (hr : Rep w g (.sl 1 (t.map encB)) (.slice a t.length cap)) (hc : Calm w g) :
    CallsIn Fence.wide 6 Tryd.prog 10 #[.slice a t.length cap] w fun e W' => ∃ v g', e = .returned (.tuple #[v, .int .i64 (endOf (readOf t) : Int)]) ∧ Rep W' g' (.sl 1 ((readOf t).map encL)) v ∧ Below w.heap.size w W' ∧ Keeps w g W' g' ∧ Calm W' g' ∧ (∀ k, k < w.heap.size → g'.pub k = g.pub k) := by
  have h1 : 1 ≤ 6 := by omega
  obtain ⟨i0, hi, hz0, hz1, hz2⟩ := info_parts info22
  refine callsIn_of_wp_marks Tryd.func10 rfl trivial ?_ rfl
  simp only [Tryd.ntmps10, List.size_toArray, List.length_cons, List.length_nil, Nat.reduceAdd, Nat.reduceSub, Array.replicate_succ, Array.replicate_zero, List.push_toArray, List.append_toArray, List.nil_append, List.cons_append]
  gi_wp2_with (refine ⟨trivial, ?_⟩; gi_at_call 24; refine (pieces_in _ _ _ _ _).mono ?_; rintro e w' ⟨rfl, rfl⟩)
  have bO := Boxed.new w 27 (.slice none 0 0)
  have bN := Boxed.new (w.alloc (.cells #[.slice none 0 0] 27)) 3 (.int .i64 0)
  have bT := Boxed.new ((w.alloc (.cells #[.slice none 0 0] 27)).alloc (.cells #[.int .i64 0] 3)) 22 (.slice a t.length cap)
  have hB0 : Below w.heap.size w (((w.alloc (.cells #[.slice none 0 0] 27)).alloc (.cells #[.int .i64 0] 3)).alloc (.cells #[.slice a t.length cap] 22)) := (((Below.refl _ w).alloc (Nat.le_refl _) _).alloc (by simp) _).alloc (by simp; omega) _
  have bO2 := (bO.alloc (.cells #[.int .i64 0] 3)).alloc (.cells #[.slice a t.length cap] 22)
  have bN2 := bN.alloc (.cells #[.slice a t.length cap] 22)
  simp only [World.size_alloc] at bN2 bT
  have hcW := hc.later hB0
  have hkW := keeps_below hc.fresh hB0
  generalize hW1 : ((w.alloc (.cells #[.slice none 0 0] 27)).alloc (.cells #[.int .i64 0] 3)).alloc (.cells #[.slice a t.length cap] 22) = W1 at *
  have hsz : W1.heap.size = w.heap.size + 3 := by rw [← hW1]; simp
  clear hW1 bO bN
  have HB := Lib.hid hsz
  refine wpIn_rangeFunc_ownG rfl h1 (gf := 36) (lb := #[.pointer (some ⟨w.heap.size + 1 + 1, 0, none⟩)]) rfl trivial (enters_of Tryd.func36 (by kernel_rfl) rfl)
    (pieces_stops 5 (by omega) (w.heap.size + 1 + 1) w.heap.size w W1 g t a cap htl hr hc rfl hB0 (by omega) bT.cell) (fun h k => Kb.trans h k)
    (fun W l o o' hl ho h1 h2 => ⟨belowK_b (w := w) (Nat.le_refl _) W l o o' (by omega) ho h1 h2, World.putObj_heap_other (by omega)⟩) (Below.refl _ _) (fun _ => rfl)
    (ReadI w g w.heap.size)
    (fun _ _ _ => False)
    ?own
    (fun _ _ _ _ _ hs _ _ => hs)
    ?start
    (fun x => { tmps := #[.slice a t.length cap, undef, .slice none 0 0, .int .i64 0, .pointer (some ⟨w.heap.size, 0, none⟩), .pointer (some ⟨w.heap.size + 1, 0, none⟩), .int .i64 (x.1.1 : Int), x.1.2.1, .slice a t.length cap,
      .func (.func 36) #[] #[.pointer (some ⟨w.heap.size + 1 + 1, 0, none⟩)], .int .i64 (x.1.1 : Int), x.1.2.1, undef, undef, undef, undef, undef, undef, undef, undef], defers := [] }) ?assign ?body ?done ?stop
  case own => exact readI_own w g w.heap.size W1.heap.size (by omega) rfl
  case start =>
    exact ⟨.slice none 0 0, g, bO2, bN2, ⟨by decide, by simp [bys], [], World.ownsRow_nil _ _ _ _, by simp, by simp [bys, flat], fun b hb => by cases hb⟩, hkW, hcW, fun _ _ => rfl, hc.fresh _ (Nat.le_refl _), hc.fresh _ (by omega), hc.fresh _ (by omega), hB0, by simp [Value.ownBlock], by omega⟩
  case assign =>
    intro l x W K hK
    gi_wp2
    exact hK
  case body =>
    rintro l pre x W hI hlt
    have hI2 : ReadI w g w.heap.size pre W.drew := readI_own w g w.heap.size W1.heap.size (by omega) rfl pre W W.drew none hI ⟨rfl, rfl, rfl, Nat.le_refl _, fun _ _ _ => rfl⟩ (fun r e => by cases e)
    clear hI
    obtain ⟨v, g', hv, hb, hown, hk, hcW', hpub, hp0, hp1, hp2, hbel, hvo, HSZ⟩ := hI2
    have hxr : Rep W.drew g' (.sl 1 (x.bytes.map encB)) x.1.2.1 := x.2.1.keep hk
    have hxl : x.bytes.length ≤ 65535 := x.2.2
    have hcl := cloneC hxr hcW' (by omega)
    have hcv : W.cell? ⟨w.heap.size, 0, none⟩ = some v := hv.cell
    have hmx : Tryd.prog.follows .mixedOrders = true := by kernel_rfl
    obtain ⟨-, -, vs, hrow, hone, hreps, hpv⟩ := hown
    have HR := Lib.hid hreps
    clear hreps
    have hpl : (bys pre).length = pre.length := by simp [bys]
    have hvl : ((bys pre).map encL).length = pre.length := by simp [bys]
    have happ : ∀ w1 cv, Below W.drew.heap.size W.drew w1 → cv.oneCell' = true → ∃ v2 w2, (Builtin.append_ #[27, 27] 27 #[v, .slice (some ⟨w1.heap.size, 0, none⟩) 1 1]).run Tryd.prog (w1.alloc (.cells #[cv] 22)) = .ok v2 w2 ∧
        w2.ownsRow w.heap.size 22 1 v2 (pre.length + 1) (vs ++ [cv]) ∧ (w1.alloc (.cells #[cv] 22)).grownBy w2 v.ownBlock ∧ w1.ownsRow w.heap.size 22 1 v pre.length vs := fun w1 cv hb1 hcv1 => by
      have hrow1 : w1.ownsRow w.heap.size 22 1 v pre.length vs := by
        have := hrow.kept (w' := w1) (row := none) ⟨hb1.os, hb1.tape, hb1.output, hb1.size, fun k hk _ => hb1.block k hk⟩ (by rcases hrow.2 with ⟨rfl, _⟩ | ⟨gb, cp, cur, rfl, _⟩; exact .inl rfl; exact .inr (by simp [Value.ownBlock]))
        rwa [hvl] at this
      obtain ⟨v2, w2, e1, e2, e3, -⟩ := run_append_own (P := Tryd.prog) (w1.alloc (.cells #[cv] 22)) w.heap.size 27 27 22 i0 (.slice none 0 0) 1 24 Tryd.underlying27 hi hz0 hz1 hz2 rfl (by decide) v pre.length vs (hrow1.alloc _) ⟨w1.heap.size, 0, none⟩ 1 1 [cv] rfl (cell_one_new _ _ _) (by simpa using hcv1) (by unfold maxLen; omega) (by omega) (by have := hb1.size; have := hbel.size; simp; omega)
      exact ⟨v2, w2, e1, e2, e3, hrow1⟩
    have happ2 : ∀ w1 cv v2 w2, Below W.drew.heap.size W.drew w1 → cv.oneCell' = true → (Builtin.append_ #[27, 27] 27 #[v, .slice (some ⟨w1.heap.size, 0, none⟩) 1 1]).run Tryd.prog (w1.alloc (.cells #[cv] 22)) = .ok v2 w2 → w1.ownsRow w.heap.size 22 1 v pre.length vs →
        ∀ k, v2.ownBlock = some k → v.ownBlock = some k ∨ w1.heap.size + 1 ≤ k := fun w1 cv v2 w2 hb1 hcv1 hr hrow1 k hk => by
      have := append_where (w1.alloc (.cells #[cv] 22)) w.heap.size i0 hi hz0 hz1 hz2 v pre.length vs (hrow1.alloc _) ⟨w1.heap.size, 0, none⟩ cv (cell_one_new _ _ _ 0 cv rfl) hcv1 (by unfold maxLen; omega) (by omega) hr k hk
      simpa using this
    have HWH := Lib.hid happ2
    clear happ2
    have HAP := Lib.hid happ
    clear happ hpl hvl
    gi_wp2
    gi_region_with_o (first | (refine ⟨trivial, ?_⟩; gi_at_call 16; refine (CallsIn.inRound l (callsIn_wide.2 hcl)).mono ?_; rintro e w1 ⟨cv, g1, rfl, r1, bl1, k1, c1, o1⟩; have hv1 : Boxed w1 w.heap.size 27 v := (bl1.block _ hv.lt).trans hv; have hcv1 : w1.cell? ⟨w.heap.size, 0, none⟩ = some v := hv1.cell; clear hcl; obtain ⟨cb, cc, rfl, hcc⟩ := rep_sl_shape r1; generalize List.length _ = cn at r1 hcc; obtain ⟨v2, w2, hrun, hown', hgrow, hrow1⟩ := HAP.out w1 (.slice cb cn cc) bl1 rfl; obtain ⟨gb, cap', rfl⟩ := ownsRow_succ hown'; have hwh := HWH.out w1 _ _ _ bl1 rfl hrun hrow1; have hrun2 := run_appSem hrun; clear hrun; obtain ⟨hvA, hvB, hrB, hkB, hbB⟩ := hv1.appended (by decide) hrow1 (Nat.le_trans hbel.size bl1.size) (Nat.le_refl _) hown' hgrow; have hcv2 := (hv1.alloc (.cells #[.slice cb cn cc] 22)).cell; have hc1 := hvA.cell; have hf1 := hvA.frozen; have hb1 : Boxed w1 (w.heap.size + 1) 3 _ := (bl1.block _ hb.lt).trans hb; have hb2 := (hb1.alloc (.cells #[.slice cb cn cc] 22)).kept hgrow (hb1.not_row (by decide) hrow1); have hc2 := hb2.cell; have hf2 := hb2.frozen))
    all_goals gi_wp2
    all_goals obtain ⟨q1, q2, q3⟩ := readI_step (W := W.drew) (n := W1.heap.size) rfl (by omega) hv hb (by simpa [bys] using hrow) hone HR.out (fun b hb => by have := hpv b hb; simpa using this) hk hcW' hpub hp0 hp1 hp2 hbel HSZ r1 rfl bl1 k1 c1 o1 hrow1 hown' hgrow hvo hwh
    all_goals exact ⟨((KeepsOthers.drew W).from _).trans q1, ⟨(Below.refl _ W).drew.trans q2.1, q2.2⟩, q3⟩
  case done =>
    rintro D ys W hD ⟨hal1, hal2⟩ ⟨v, hI⟩ hK
    have hcv : W.cell? ⟨w.heap.size, 0, none⟩ = some v := by obtain ⟨g', hv, -⟩ := hI; exact hv.cell
    have hcb : W.cell? ⟨w.heap.size + 1, 0, none⟩ = some (.int .i64 (lastAt ys : Int)) := by obtain ⟨g', -, hb, -⟩ := hI; exact hb.cell
    have hmx : Tryd.prog.follows .mixedOrders = true := by kernel_rfl
    have HA := Lib.hid hal1
    have HA2 := Lib.hid hal2
    clear hal1 hal2
    have hgr : W.grownBy (W.drew.putObj D (.deferred none)) (some D) := ⟨rfl, rfl, rfl, by simp, fun k _ hk => World.putObj_heap_other (fun e => hk (by rw [e]))⟩
    have hI2 := readJ_own w g w.heap.size W1.heap.size (by omega) rfl hI hgr (fun r e => by cases e; exact ⟨hD, _, hK, rfl⟩)
    have hfin : ∃ g2, Rep (W.drew.putObj D (.deferred none)) g2 (.sl 1 ((readOf t).map encL)) v ∧ Below w.heap.size w (W.drew.putObj D (.deferred none)) ∧ Keeps w g (W.drew.putObj D (.deferred none)) g2 ∧ Calm (W.drew.putObj D (.deferred none)) g2 ∧ ∀ k, k < w.heap.size → g2.pub k = g.pub k := by
      obtain ⟨g', hv, hb, hown, hk, hc2, hpub, hp0, hp1, hp2, hbel, hvo, HSZ⟩ := hI2
      rw [HA.out] at hown
      obtain ⟨g2, k2, r2, n2, f2, o2⟩ := own_open hown hc2.fresh
      exact ⟨g2, r2, hbel, hk.trans k2, ⟨n2.trans hc2.n, f2, fun i cs hi => (hc2.laid i cs hi).keep k2⟩, fun k hk' => (o2 k hk').trans (hpub k hk')⟩
    have HF := Lib.hid hfin
    clear hfin hI2 hI hgr
    gi_wp2
    refine wpIn_region_any hmx ?_
    refine wpAnyIn_ready (rs := [0, 1]) (by kernel_rfl) (by simp) ?_
    refine AllReadyIn.cons rfl (fun K hK => ?_) (AllReadyIn.cons rfl (fun K hK => ?_) AllReadyIn.nil)
    · go_simp
      refine hK _ _ ?_
      clear hK K
      refine wpAnyIn_ready (rs := [1, 2]) (by kernel_rfl) (by simp) ?_
      refine AllReadyIn.cons rfl (fun K hK => ?_) (AllReadyIn.cons rfl (fun K hK => ?_) AllReadyIn.nil)
      · go_simp
        refine hK _ _ ?_
        clear hK K
        refine wpAnyIn_ready (rs := [2]) (by kernel_rfl) (by simp) ?_
        refine AllReadyIn.cons rfl (fun K hK => ?_) AllReadyIn.nil
        go_simp
        refine hK _ _ ?_
        clear hK K
        refine wpAnyIn_ready (rs := [3]) (by kernel_rfl) (by simp) ?_
        refine AllReadyIn.cons rfl (fun K hK => ?_) AllReadyIn.nil
        go_simp
        refine hK _ _ ?_
        clear hK K
        refine wpAnyIn_done (by kernel_rfl) ?_ _
        gi_wp2
        obtain ⟨g2, z1, z2, z3, z4, z5⟩ := HF.out
        refine ⟨by simp, .inl ⟨_, _, rfl, run_takeDeferred (w := W.drew) hK, ?_⟩⟩
        exact ⟨_, results_tmp2 rfl _ _ _, v, g2, by rw [← HA2.out]; rfl, z1, z2, z3, z4, z5⟩
      · go_simp
        refine hK _ _ ?_
        clear hK K
        refine wpAnyIn_ready (rs := [1]) (by kernel_rfl) (by simp) ?_
        refine AllReadyIn.cons rfl (fun K hK => ?_) AllReadyIn.nil
        go_simp
        refine hK _ _ ?_
        clear hK K
        refine wpAnyIn_ready (rs := [3]) (by kernel_rfl) (by simp) ?_
        refine AllReadyIn.cons rfl (fun K hK => ?_) AllReadyIn.nil
        go_simp
        refine hK _ _ ?_
        clear hK K
        refine wpAnyIn_done (by kernel_rfl) ?_ _
        gi_wp2
        obtain ⟨g2, z1, z2, z3, z4, z5⟩ := HF.out
        refine ⟨by simp, .inl ⟨_, _, rfl, run_takeDeferred (w := W.drew) hK, ?_⟩⟩
        exact ⟨_, results_tmp2 rfl _ _ _, v, g2, by rw [← HA2.out]; rfl, z1, z2, z3, z4, z5⟩
    · go_simp
      refine hK _ _ ?_
      clear hK K
      refine wpAnyIn_ready (rs := [0]) (by kernel_rfl) (by simp) ?_
      refine AllReadyIn.cons rfl (fun K hK => ?_) AllReadyIn.nil
      go_simp
      refine hK _ _ ?_
      clear hK K
      refine wpAnyIn_ready (rs := [2]) (by kernel_rfl) (by simp) ?_
      refine AllReadyIn.cons rfl (fun K hK => ?_) AllReadyIn.nil
      go_simp
      refine hK _ _ ?_
      clear hK K
      refine wpAnyIn_ready (rs := [3]) (by kernel_rfl) (by simp) ?_
      refine AllReadyIn.cons rfl (fun K hK => ?_) AllReadyIn.nil
      go_simp
      refine hK _ _ ?_
      clear hK K
      refine wpAnyIn_done (by kernel_rfl) ?_ _
      gi_wp2
      obtain ⟨g2, z1, z2, z3, z4, z5⟩ := HF.out
      refine ⟨by simp, .inl ⟨_, _, rfl, run_takeDeferred (w := W.drew) hK, ?_⟩⟩
      exact ⟨_, results_tmp2 rfl _ _ _, v, g2, by rw [← HA2.out]; rfl, z1, z2, z3, z4, z5⟩
  case stop =>
    rintro D c pre W _ _ h _
    exact h.elim

/-- Bytes, without objects. -/
theorem bytes_n0 {w : World} {g : Gh} {l : List UInt8} {v : Value} (h : Rep w g (.sl 1 (l.map encB)) v) : Rep w { g with n := 0 } (.sl 1 (l.map encB)) v := by
  generalize hx : l.map encB = xs at h ⊢
  cases h with
  | nil => exact .nil 1
  | empty _ a c hc => exact .empty 1 a c hc
  | sl vs hc hm hsz hu hr hs =>
    refine .sl vs hc hm hsz hu hr (fun j u hu => ?_)
    have h1 := hs j u hu
    subst hx
    have hfl : flat (l.map encB) = l.map encB := by
      clear h1 hu hs hr hc
      induction l with
      | nil => rfl
      | cons y ys ih => simp only [flat, List.map_cons, List.flatMap_cons] at ih ⊢; rw [ih fun x hx => by simp at hx; obtain ⟨z, -, rfl⟩ := hx; rfl]; rfl
    rw [hfl] at hu
    obtain ⟨y, -, rfl⟩ := List.mem_map.1 (List.mem_of_getElem? hu)
    obtain ⟨e, hp⟩ := rep_v (x := .int .u8 (y.toNat : Int)) h1
    rw [e]; exact .v hp
theorem laid_n0 {w : World} {g : Gh} (h : LaidG w g) : LaidG w { g with n := 0 } := fun i cs hi => by
  have h1 := h i cs hi
  have hcs : ∀ u ∈ cs, ∃ x, u = .v x := by
    have : (globTab i).all (fun cs => cs.all fun u => u matches .v _) = true := by
      unfold globTab
      repeat (first | rfl | split)
    rw [hi] at this
    intro u hu
    have := List.all_eq_true.1 this u hu
    cases u <;> simp at this
    exact ⟨_, rfl⟩
  cases h1 with
  | eptr vs hr hs =>
    refine .eptr vs hr (fun j u hu => ?_)
    have h2 := hs j u hu
    obtain ⟨x, rfl⟩ := hcs u (List.mem_of_getElem? hu)
    obtain ⟨e, hp⟩ := rep_v h2
    rw [e]; exact .v hp

theorem does_read : Does Tryd.prog 10 readSpec := by
  refine ⟨⟨_, Tryd.func10, by decide +kernel, by decide +kernel⟩, ?_⟩
  rintro args h Q ⟨t, htl, rfl, hq⟩ w g vs hvs hrep hh hfr hlaid
  obtain ⟨v0, rfl⟩ : ∃ v0, vs = #[v0] := ⟨vs.getD 0 undef, by
    have : vs.size = 1 := hvs
    apply Array.ext
    · simp [this]
    · intro i h1 h2
      have : i = 0 := by omega
      subst this
      simp [Array.getD_eq_getD_getElem?, h1]⟩
  have hr0 : Rep w g (.sl 1 (t.map encB)) v0 := hrep 0 _ rfl
  obtain ⟨a, cap, rfl, -⟩ := rep_sl_shape hr0
  rw [List.length_map] at hr0 ⊢
  have hr1 := bytes_n0 hr0
  have key := callsIn_wide.1 (read_in w { g with n := 0 } t a cap htl hr1 ⟨rfl, hfr, laid_n0 hlaid⟩)
  refine key.mono ?_
  rintro e W' ⟨v, g', rfl, hres, hbel, hk, hc, hpub⟩
  have hkk : Keeps W' g' W' { g' with n := g.n, loc := g.loc } := ⟨fun _ => Nat.le_refl _, fun _ _ _ _ h => h, by rw [hc.n]; exact Nat.zero_le _, fun i hi => absurd hi (by rw [hc.n]; exact Nat.not_lt_zero _)⟩
  have hkw : Keeps w g W' { g' with n := g.n, loc := g.loc } := ⟨hk.pub, hk.cell, Nat.le_refl _, fun _ _ => rfl⟩
  refine ⟨_, h, { g' with n := g.n, loc := g.loc }, _, hq, rfl, ?_, ?_, ⟨hbel.os, hbel.tape, hbel.output, hbel.size, fun k hk _ => hbel.block k hk⟩, Nat.le_refl _, fun _ _ => rfl, hpub, fun i h1 h2 => absurd h1 (by simpa using h2), hc.fresh⟩
  · show Rep _ _ _ _
    refine .tup rfl (fun j u hu => ?_)
    rcases j with _ | _ | j
    · simp at hu; subst hu; exact hres.keep hkk
    · simp at hu; subst hu; exact .v rfl
    · simp at hu
  · exact ⟨hh.n, fun i hi => Nat.lt_of_lt_of_le (hh.lt i hi) hbel.size, hh.inj, fun i o ho => by
      have hi : i < g.n := by
        rw [← hh.n]
        rcases Nat.lt_or_ge i h.length with h' | h'
        · exact h'
        · rw [List.getElem?_eq_none h'] at ho; cases ho
      exact (hh.obj i o ho).keepAt hkw ⟨hbel.block _ (hh.lt i hi), hpub _ (hh.lt i hi)⟩⟩
#print axioms does_read

end Go.Proofs
