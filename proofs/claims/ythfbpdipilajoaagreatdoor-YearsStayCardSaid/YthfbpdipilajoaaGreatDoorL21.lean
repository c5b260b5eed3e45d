/- A view's pairs: view.Scan. -/
import Derived.Test.YthfbpdipilajoaaGreatDoorL20
set_option linter.unusedSimpArgs false
set_option linter.unusedVariables false
namespace Go.Proofs.Lx
open Go.Vm
attribute [local irreducible] awpArr awpBin awpMake awpAppend awpCvX awpStrOf awpBinX awpSlice awpBS awpStore awpAlloc awpCopy awpIndex awpDraw awpIdxX awpFa awpField awpLookup awpUpdate awpDelete awpClear awpRange awpNext awpEntry awpBuild awpClearS awpIdxL

def askT : Tab := tab [(121, askSpec)]
def delT : Tab := tab [(155, orS (ixPSpec askT) ixPNilSpec), (121, askSpec)]
theorem good_askT : Good askT := good_cons does_ask good_nil
theorem good_delT : Good delT := good_cons (does_or (does_ixP good_askT) does_ixPNil) (good_cons does_ask good_nil)
theorem ask_sub : ∀ g S, askT g = some S → delT g = some S := fun g S h => by
  unfold askT delT tab at *
  simp only [List.lookup] at h ⊢
  split at h
  · rename_i e
    have hg : g = 121 := by simpa using e
    subst hg; cases h; rfl
  · cases h
theorem does_del : Does Tryz.prog 119 (orS (delPSpec askT) delPNilSpec) :=
  does_or (does_delP good_delT ask_sub rfl) (does_delPNil (T2 := askT) good_delT rfl)
theorem does_sort : Does Tryz.prog 123 (orS sortPSpec sortPNilSpec) := does_or does_sortP does_sortPNil

theorem heap_get {h : Heap} {i : Nat} {x : AObj} (r : List AObj) (hi : h[i]? = some x) : (h ++ r)[i]? = some x := by
  have hlt : i < h.length := by
    rcases Nat.lt_or_ge i h.length with h' | h'
    · exact h'
    · rw [List.getElem?_eq_none h'] at hi; cases hi
  rw [List.getElem?_append_left hlt]; exact hi
theorem isView.more {h : Heap} {V : VId} {f : Fun} (hV : isView h V f) (r : List AObj) : isView (h ++ r) V f := by
  obtain ⟨chg, clk, mem, clk2, h1, h2, h3, h4⟩ := hV
  exact ⟨chg, clk, mem, clk2, heap_get r h1, heap_get r h2, heap_get r h3, h4⟩
theorem Same.more (h : Heap) (r : List AObj) : Same h (h ++ r) [] := ⟨by simp, fun i hi _ => List.getElem?_append_left hi⟩

/-- What is asked of a pair. -/
def askP (chg : List Ent) (x : AV) : Bool := match x with
  | .agg [k, _] => (mget (strK (bytesOf k)) chg).isSome
  | _ => false
theorem askP_kv (chg : List Ent) (p : KV) : askP chg (kvAv p) = (mget (strK p.1) chg).isSome := by
  have : bytesOf (.sl 1 (p.1.map encB)) = p.1 := bytesOf_isB (.inl rfl)
  simp only [askP, kvAv, this]
theorem stay_kv (chg : List Ent) (l : List KV) : stay (askP chg) (l.map kvAv) = (l.filter fun p => !(mget (strK p.1) chg).isSome).map kvAv := by
  rw [stay, List.filter_map]
  congr 1
  apply List.filter_congr
  intro p _
  simp only [Function.comp, askP_kv]

/-- A call that turns an own slice and gives it back. -/
theorem callI_ret {S : Vm.Spec} {f : FuncId} {R : Option Vm.Spec} {bs : List AV} {k0 e sz : Nat} {xs xs' : List AV} {s : Slots} {h : Heap} {K : AV → Slots → Heap → Prop} (hT : R = some S) (hsub : ∀ x ∈ xs', x ∈ xs)
    (hn : xs = [] → xs' = [] ∧ ∀ Q' : AV → Heap → Prop, Q' (.v (.slice none 0 0)) h → S (.v (.slice none 0 0) :: bs) h Q')
    (hb : ∀ c, xs.length ≤ c → ∀ Q' : AV → Heap → Prop, (∀ cs, cs.take (xs'.length * sz) = flat xs' → Q' (.osl h.length 0 xs'.length c) (h ++ [.row e (c * sz) cs])) → S (.osl h.length 0 xs.length c :: bs) (h ++ [.row e (c * sz) (flat xs)]) Q')
    (hk : K (.own true e sz xs') s h) : callI f R bs s h (some k0) K (.own true e sz xs) := by
  refine callI_intro _ _ _ hT (fun hx => ?_) fun c h1 h2 => ?_
  · obtain ⟨q1, q2⟩ := hn hx
    refine q2 _ ⟨rfl, ?_⟩
    rw [q1] at hk
    exact hk
  · refine hb c h1 _ fun cs hcs => ⟨cs, rfl, xs', hsub, rfl, rfl, rfl, rfl, hcs, hk⟩
theorem callI_tup {S : Vm.Spec} {f : FuncId} {R : Option Vm.Spec} {bs : List AV} {k0 e sz : Nat} {xs : List AV} {s : Slots} {h : Heap} {K : AV → Slots → Heap → Prop} (P : List AV → Prop) (hT : R = some S) (hP : ∀ xs', P xs' → (∀ x ∈ xs', x ∈ xs) ∧ xs'.length = xs.length)
    (hn : xs = [] → P [] ∧ ∀ Q' : AV → Heap → Prop, Q' (.tup []) h → S (.v (.slice none 0 0) :: bs) h Q')
    (hb : ∀ c, xs.length ≤ c → ∀ Q' : AV → Heap → Prop, (∀ xs' cs, P xs' → cs.take (xs'.length * sz) = flat xs' → Q' (.tup []) (h ++ [.row e (c * sz) cs])) → S (.osl h.length 0 xs.length c :: bs) (h ++ [.row e (c * sz) (flat xs)]) Q')
    (hk : ∀ xs', P xs' → K (.tup []) (Vm.set s k0 (.own true e sz xs')) h) : callI f R bs s h (some k0) K (.own true e sz xs) := by
  refine callI_intro _ _ _ hT (fun hx => ?_) fun c h1 h2 => ?_
  · obtain ⟨q1, q2⟩ := hn hx
    exact q2 _ ⟨rfl, hk [] q1⟩
  · refine hb c h1 _ fun xs' cs hp hcs => ⟨cs, rfl, xs', (hP xs' hp).1, (hP xs' hp).2, ?_, hk xs' hp⟩
    rw [← (hP xs' hp).2]; exact hcs

def scanSpec : Vm.Spec := fun args h Q => ∃ (V : VId) (f : Fun) (pre : List UInt8), args = [.ptr V.iv 0, .sl 1 (pre.map encB)] ∧ pre.length ≤ 4611686018427387904 ∧ isView h V f ∧ f.n ≤ 536870912 ∧
  ∀ l h', ScanIs f pre l → l.length ≤ 2 * f.n → isView h' V f → Same h h' [] → Q (.own true 47 2 (l.map kvAv)) h'

set_option maxRecDepth 20000 in
theorem does_scan : Does Tryz.prog 42 scanSpec := by
  refine does_of_awp (good_cons does_vready (good_cons does_base (good_cons does_del (good_cons does_hasPrefix (good_cons does_cloneW (good_cons does_sort good_nil)))))) Tryz.func42 rfl (by decide +kernel) (by decide +kernel) ?_
  rintro args h Q ⟨V, f, pre, rfl, hpl, hV, hfn, hq⟩
  refine ⟨by simp [Tryz.f42], ?_⟩
  rw [awpFunc_some (by rfl)]
  have hV0 := hV
  obtain ⟨chg, clk, mem, clk2, h1, h2, h3, h4, h5, h6, h7, hlen, hk32⟩ := hV
  simp -dsimp only [Vm.E, List.lookup, Nat.reduceAdd, Nat.reduceBEq, Int.reduceBNe, Int.reduceBEq, Bool.true_beq, Bool.false_beq, of26]
  refine call_one (S := vreadySpec) rfl _ GaL.rfl ⟨V.iv, V.ic, _, rfl, h1, ?_⟩
  simp -dsimp only [Vm.E, List.lookup, Nat.reduceAdd, Nat.reduceBEq, Int.reduceBNe, Int.reduceBEq, Bool.true_beq, Bool.false_beq, of26, fo126_3, h1, of30, bne_self_eq_false]
  refine call_one (S := baseSpec) rfl _ GaL.rfl ⟨V.iv, V.ic, V.im, mem, clk2, pre, rfl, hpl, h1, h3, h5.2, h6.2, by omega, fun e he => hk32 e (.inr he), fun l0 hl0 => ?_⟩
  have hl0n : l0.length ≤ mem.length := by rw [hl0.length_eq, List.length_map]; exact List.length_filter_le ..
  simp -dsimp only [Vm.E, List.lookup, Nat.reduceAdd, Nat.reduceBEq, Int.reduceBNe, Int.reduceBEq, Bool.true_beq, Bool.false_beq, awpOp_mf]
  refine call_in _ _ _ ?_
  simp -dsimp only [Vm.E, List.lookup, Nat.reduceAdd, Nat.reduceBEq, Int.reduceBNe, Int.reduceBEq, Bool.true_beq, Bool.false_beq, callI_eq, ownSl_own, ownSl_alias]
  have hsame := Same.more h [AObj.cells [.ptr V.iv 0]]
  have hV1 := hV0.more [AObj.cells [.ptr V.iv 0]]
  have g0 := heap_last h (AObj.cells [.ptr V.iv 0])
  have g1 := heap_get [AObj.cells [.ptr V.iv 0]] h1
  have g2 := heap_get [AObj.cells [.ptr V.iv 0]] h2
  have g3 := heap_get [AObj.cells [.ptr V.iv 0]] h3
  have hbase : ∀ r, heap_get r g1 = heap_get r g1 := fun _ => rfl
  generalize h ++ [AObj.cells [AV.ptr V.iv 0]] = hh at *
  have hpr : ∀ x ∈ l0.map kvAv, isPr x := fun x hx => by obtain ⟨p, -, rfl⟩ := List.mem_map.1 hx; exact kvAv_pr p
  refine callI_ret (S := orS (delPSpec askT) delPNilSpec) (xs' := stay (askP chg) (l0.map kvAv)) rfl (fun x hx => (List.mem_filter.1 hx).1) (fun hx => ⟨by rw [hx]; rfl, fun Q' hq' => .inr ⟨_, _, rfl, hq'⟩⟩)
    (fun c hc Q' hq' => .inl ⟨121, [.ptr h.length 0], askSpec, askP chg, l0.map kvAv, hh, c, 47, rfl, rfl, rfl, hc, hpr, by rw [List.length_map]; omega, fun cs x hx Q2 hq2 => ?_, hq'⟩) ?_
  · obtain ⟨p, -, rfl⟩ := List.mem_map.1 hx
    rw [askP_kv] at hq2
    exact ⟨p.1, .sl 1 (p.2.map encB), h.length, V.iv, V.ic, V.im, chg, clk, rfl, rfl, rfl, rfl, heap_get _ g0, heap_get _ g1, heap_get _ g2, h5.1, hq2⟩
  rw [stay_kv]
  have hl1 : (l0.filter fun p => !(mget (strK p.1) chg).isSome).length ≤ l0.length := List.length_filter_le ..
  simp -dsimp only [Vm.E, List.lookup, Nat.reduceAdd, Nat.reduceBEq, Int.reduceBNe, Int.reduceBEq, Bool.true_beq, Bool.false_beq, g0, g1, of26, fo126_3, fo126_0, of30, of123, bne_self_eq_false]
  refine range_intro mt123 chg clk g2 ?_
  simp -dsimp only [Vm.E, List.lookup, Nat.reduceAdd, Nat.reduceBEq, Int.reduceBNe, Int.reduceBEq, Bool.true_beq, Bool.false_beq]
  refine awp_loop (fun m s h' => ∃ done : List Ent, m = (leftE chg (done.map (·.born))).length ∧ done.length + m ≤ chg.length ∧ h' = hh ∧ (∀ d ∈ done, d ∈ chg) ∧ (done.map (·.born)).Nodup ∧
      s = mk [(1, .sl 1 (pre.map encB)), (5, .own true 47 2 ((scanL chg pre l0 done).map kvAv)), (32, .iter V.ic clk (done.map (·.born)) clk)])
    chg.length _ (le_mk _ ?_) ⟨[], (congrArg List.length (List.filter_eq_self.2 fun _ _ => rfl)).symm, by simp, rfl, by simp, by simp, rfl⟩ ?_
  · simp only [List.forall_mem_cons, List.not_mem_nil, false_imp_iff, implies_true, and_true, scanL, List.filter_nil, List.map_nil, List.append_nil]
    simp -dsimp only [Vm.E, List.lookup, Nat.reduceAdd, Nat.reduceBEq, Int.reduceBNe, Int.reduceBEq, Bool.true_beq, Bool.false_beq]
    exact ⟨.refl _, .refl _, .refl _⟩
  · rintro m s h' ⟨done, rfl, hlen2, rfl, hd, hdn, rfl⟩
    simp -dsimp only [Vm.E, List.lookup, Nat.reduceAdd, Nat.reduceBEq, Int.reduceBNe, Int.reduceBEq, Bool.true_beq, Bool.false_beq]
    refine next_intro chg clk g2 (fun e he => h6.1.2 e he) (Nat.le_refl _) (fun hl => ?_) (fun e he => ?_)
    · simp -dsimp only [Vm.E, List.lookup, Nat.reduceAdd, Nat.reduceBEq, Int.reduceBNe, Int.reduceBEq, Bool.true_beq, Bool.false_beq]
      refine call_in _ _ _ ?_
      simp -dsimp only [Vm.E, List.lookup, Nat.reduceAdd, Nat.reduceBEq, Int.reduceBNe, Int.reduceBEq, Bool.true_beq, Bool.false_beq, callI_eq, ownSl_own, ownSl_alias]
      have hD : done.Perm chg := seen_all h6.1.1.1 hd hdn hl
      have hnd := scan_keys h5.1 h6.1 h6.2 hl0 hD
      have hsl : (scanL chg pre l0 done).length ≤ l0.length + done.length := by
        unfold scanL; rw [List.length_append, List.length_map]
        have hfl : (done.filter fun e => !goneC e && pre.isPrefixOf (kOf e)).length ≤ done.length := List.length_filter_le ..
        omega
      refine callI_tup (S := orS sortPSpec sortPNilSpec) (fun xs' => ∃ l' : List KV, xs' = l'.map kvAv ∧ l'.Perm (scanL chg pre l0 done) ∧ l'.Pairwise keyLt) rfl
        (fun xs' hx => ?_) (fun hx => ⟨?_, fun Q' hq' => .inr ⟨_, rfl, hq'⟩⟩) (fun c hc Q' hq' => .inl ⟨scanL chg pre l0 done, h', c, 47, by rw [List.length_map], rfl, hnd, by omega, by rw [List.length_map] at hc; exact hc, fun l' hp hs => hq' _ _ ⟨l', rfl, hp, hs⟩ ?_⟩) (fun xs' hx => ?_)
      · obtain ⟨l', rfl, hp, hs⟩ := hx
        exact ⟨fun x hx => (hp.map kvAv).mem_iff.1 hx, by rw [List.length_map, List.length_map, hp.length_eq]⟩
      · have hnil : scanL chg pre l0 done = [] := List.map_eq_nil_iff.1 hx
        exact ⟨[], rfl, by rw [hnil], .nil⟩
      · rw [List.take_of_length_le]
        rw [flat_length (sz := 2) (fun x hx => by obtain ⟨p, -, rfl⟩ := List.mem_map.1 hx; rfl)]
        exact Nat.le_refl _
      · obtain ⟨l', rfl, hp, hs⟩ := hx
        simp -dsimp only [Vm.E, List.lookup, Nat.reduceAdd, Nat.reduceBEq, Int.reduceBNe, Int.reduceBEq, Bool.true_beq, Bool.false_beq, Tryz.results42]
        exact hq l' h' (scan_law h5.1 h5.2 h6.1 h6.2 h7 hl0 hD hp hs) (by have := hp.length_eq; omega) hV1 hsame
    · obtain ⟨hem, heb⟩ := left_mem he
      obtain ⟨⟨k, hk⟩, x, l, b, hx, hl, hev⟩ := h5.1 e hem
      obtain ⟨hd2, hdn2⟩ := done_more he hd hdn
      have hless := left_less he
      have hkk := kOf_eq hk
      have hbv := bytesOf_isB hx
      have hfl : (done.filter fun e => !goneC e && pre.isPrefixOf (kOf e)).length ≤ done.length := List.length_filter_le ..
      have emap : (done ++ [e]).map (·.born) = done.map (·.born) ++ [e.born] := by simp
      have hgn : goneC e = b := by unfold goneC; rw [hev]
      have hkv : kvC e = (k, l) := by unfold kvC valC; rw [hev, hkk]; simp only [hbv]
      have ef : scanL chg pre l0 (done ++ [e]) = scanL chg pre l0 done ++ if !b && pre.isPrefixOf k then [(k, l)] else [] := by
        unfold scanL
        rw [List.filter_append, List.filter_cons, List.filter_nil, hkk, hgn, List.map_append, ← List.append_assoc]
        congr 1
        split <;> simp [hkv]
      simp -dsimp only [Vm.E, List.lookup, Nat.reduceAdd, Nat.reduceBEq, Int.reduceBNe, Int.reduceBEq, Bool.true_beq, Bool.false_beq]
      refine entry_intro chg clk e g2 (find_born h6.1.1.1 hem) ?_
      simp only [key_string hk, hev]
      have hg := hx.ga
      have hkl : k.length ≤ 32 := by have := hk32 e (.inl hem); rw [hkk] at this; exact this
      have hks : (ByteArray.mk k.toArray).size ≤ maxLen := by
        have : (ByteArray.mk k.toArray).size = k.length := by simp [ByteArray.size]
        rw [this]; unfold maxLen; omega
      have hkd : (ByteArray.mk k.toArray).data.toList = k := by simp
      have hsl : (scanL chg pre l0 done).length ≤ l0.length + done.length := by
        unfold scanL; rw [List.length_append, List.length_map]; omega
      cases b
      · have e2 : ∀ b, pre.isPrefixOf k = b → scanL chg pre l0 (done ++ [e]) = scanL chg pre l0 done ++ if b then [(k, l)] else [] := fun b hb => by rw [ef, hb]; rfl
        generalize hL : l = L at hg hl ef e2
        rcases hx with rfl | ⟨rfl, rfl⟩
        all_goals
          simp -dsimp only [Vm.E, List.lookup, Nat.reduceAdd, Nat.reduceBEq, Int.reduceBNe, Int.reduceBEq, Bool.true_beq, Bool.false_beq, sto_place, sto_box, sto_pp, sto_pc, sto_ptr, sto_cells, stoOk_eq, solid_v, solid_sl, solid_agg, solid_eptr, solid_ptr, solid_mp, solid_clo, cells_eptr, put_nil, put_zero, put_succ, bld_nil, bld_cons, bld_some, bsIx_nil, bsIx_cons, bsAll_nil, bsAll_cons, List.length_cons, List.length_nil, Nat.reduceLeDiff, decide_true, Bool.and_self, Bool.and_true, Bool.true_and, take_sc, take_z, eq_self, al134, sz134, of134, fo134_1, fo134_0, of4, of45]
          refine cvX_bytes bt45 Tryz.underlying9 hks ?_
          simp -dsimp only [Vm.E, List.lookup, Nat.reduceAdd, Nat.reduceBEq, Int.reduceBNe, Int.reduceBEq, Bool.true_beq, Bool.false_beq, hkd]
          refine call_one (S := prefixSpec) rfl _ GaL.rfl ⟨k, pre, by omega, hpl, rfl, ?_⟩
          cases hp : pre.isPrefixOf k
          · simp -dsimp only [Vm.E, List.lookup, Nat.reduceAdd, Nat.reduceBEq, Int.reduceBNe, Int.reduceBEq, Bool.true_beq, Bool.false_beq]
            have e2 := e2 false hp
            simp only [Bool.false_eq_true, if_false, List.append_nil] at e2
            refine kept_intro ⟨_, hless, _, le_mk [(1, .sl 1 (pre.map encB)), (5, .own true 47 2 ((scanL chg pre l0 (done ++ [e])).map kvAv)), (32, .iter V.ic clk ((done ++ [e]).map (·.born)) clk)] ?_,
              done ++ [e], by rw [emap], by rw [List.length_append]; simp only [List.length_cons, List.length_nil]; omega, rfl, hd2, hdn2, rfl⟩
            simp only [List.forall_mem_cons, List.not_mem_nil, false_imp_iff, implies_true, and_true, e2, emap, List.map_append, List.map_cons, List.map_nil, List.append_nil]
            simp -dsimp only [Vm.E, List.lookup, Nat.reduceAdd, Nat.reduceBEq, Int.reduceBNe, Int.reduceBEq, Bool.true_beq, Bool.false_beq]
            exact ⟨.refl _, .refl _, .refl _⟩
          · have e2 := e2 true hp
            simp only [if_true] at e2
            simp -dsimp only [Vm.E, List.lookup, Nat.reduceAdd, Nat.reduceBEq, Int.reduceBNe, Int.reduceBEq, Bool.true_beq, Bool.false_beq, sto_place, sto_box, sto_pp, sto_pc, sto_ptr, sto_cells, stoOk_eq, solid_v, solid_sl, solid_agg, solid_eptr, solid_ptr, solid_mp, solid_clo, cells_eptr, put_nil, put_zero, put_succ, bld_nil, bld_cons, bld_some, bsIx_nil, bsIx_cons, bsAll_nil, bsAll_cons, List.length_cons, List.length_nil, Nat.reduceLeDiff, decide_true, Bool.and_self, Bool.and_true, Bool.true_and, take_sc, take_z, eq_self, al134, sz134, of134, fo134_1, fo134_0, of4, of45]
            refine cvX_bytes bt45 Tryz.underlying9 hks ?_
            simp -dsimp only [Vm.E, List.lookup, Nat.reduceAdd, Nat.reduceBEq, Int.reduceBNe, Int.reduceBEq, Bool.true_beq, Bool.false_beq, hkd, sto_place, sto_box, sto_pp, sto_pc, sto_ptr, sto_cells, stoOk_eq, solid_v, solid_sl, solid_agg, solid_eptr, solid_ptr, solid_mp, solid_clo, cells_eptr, put_nil, put_zero, put_succ, bld_nil, bld_cons, bld_some, bsIx_nil, bsIx_cons, bsAll_nil, bsAll_cons, List.length_cons, List.length_nil, Nat.reduceLeDiff, decide_true, Bool.and_self, Bool.and_true, Bool.true_and, take_sc, take_z, eq_self, al134, sz134, of134, fo134_1, fo134_0, of4, of45]
            refine call_one (S := cloneWSpec) rfl _ (GaL.cons hg .nil) ⟨L, by omega, rfl, ?_, ?_⟩
            all_goals
              simp -dsimp only [Vm.E, List.lookup, Nat.reduceAdd, Nat.reduceBEq, Int.reduceBNe, Int.reduceBEq, Bool.true_beq, Bool.false_beq, sto_place, sto_box, sto_pp, sto_pc, sto_ptr, sto_cells, stoOk_eq, solid_v, solid_sl, solid_agg, solid_eptr, solid_ptr, solid_mp, solid_clo, cells_eptr, put_nil, put_zero, put_succ, bld_nil, bld_cons, bld_some, bsIx_nil, bsIx_cons, bsAll_nil, bsAll_cons, List.length_cons, List.length_nil, Nat.reduceLeDiff, decide_true, Bool.and_self, Bool.and_true, Bool.true_and, take_sc, take_z, eq_self, bd47, es40]
              refine bs_intro zr47 (by decide) (by decide) rfl rfl (by simp [solid, AV.cells]) ?_
              simp -dsimp only [Vm.E, List.lookup, Nat.reduceAdd, Nat.reduceBEq, Int.reduceBNe, Int.reduceBEq, Bool.true_beq, Bool.false_beq, append_own ei40]
              refine app_sl Tryz.underlying40 (by simp [AV.cells]) (by simp only [List.length_map, List.length_cons, List.length_nil]; omega) ?_
              simp -dsimp only [Vm.E, List.lookup, Nat.reduceAdd, Nat.reduceBEq, Int.reduceBNe, Int.reduceBEq, Bool.true_beq, Bool.false_beq]
              refine kept_intro ⟨_, hless, _, le_mk [(1, .sl 1 (pre.map encB)), (5, .own true 47 2 ((scanL chg pre l0 (done ++ [e])).map kvAv)), (32, .iter V.ic clk ((done ++ [e]).map (·.born)) clk)] ?_,
                done ++ [e], by rw [emap], by rw [List.length_append]; simp only [List.length_cons, List.length_nil]; omega, rfl, hd2, hdn2, rfl⟩
              simp only [List.forall_mem_cons, List.not_mem_nil, false_imp_iff, implies_true, and_true, e2, emap, List.map_append, List.map_cons, List.map_nil]
              simp -dsimp only [Vm.E, List.lookup, Nat.reduceAdd, Nat.reduceBEq, Int.reduceBNe, Int.reduceBEq, Bool.true_beq, Bool.false_beq]
              exact ⟨.refl _, .refl _, .refl _⟩
      · have e2 : scanL chg pre l0 (done ++ [e]) = scanL chg pre l0 done := by rw [ef]; simp
        rcases hx with rfl | ⟨rfl, rfl⟩
        all_goals
          simp -dsimp only [Vm.E, List.lookup, Nat.reduceAdd, Nat.reduceBEq, Int.reduceBNe, Int.reduceBEq, Bool.true_beq, Bool.false_beq, sto_place, sto_box, sto_pp, sto_pc, sto_ptr, sto_cells, stoOk_eq, solid_v, solid_sl, solid_agg, solid_eptr, solid_ptr, solid_mp, solid_clo, cells_eptr, put_nil, put_zero, put_succ, bld_nil, bld_cons, bld_some, bsIx_nil, bsIx_cons, bsAll_nil, bsAll_cons, List.length_cons, List.length_nil, Nat.reduceLeDiff, decide_true, Bool.and_self, Bool.and_true, Bool.true_and, take_sc, take_z, eq_self, al134, sz134, of134, fo134_1, fo134_0, of4, of45]
          refine kept_intro ⟨_, hless, _, le_mk [(1, .sl 1 (pre.map encB)), (5, .own true 47 2 ((scanL chg pre l0 (done ++ [e])).map kvAv)), (32, .iter V.ic clk ((done ++ [e]).map (·.born)) clk)] ?_,
            done ++ [e], by rw [emap], by rw [List.length_append]; simp only [List.length_cons, List.length_nil]; omega, rfl, hd2, hdn2, rfl⟩
          simp only [List.forall_mem_cons, List.not_mem_nil, false_imp_iff, implies_true, and_true, e2, emap, List.map_append, List.map_cons, List.map_nil, List.append_nil]
          simp -dsimp only [Vm.E, List.lookup, Nat.reduceAdd, Nat.reduceBEq, Int.reduceBNe, Int.reduceBEq, Bool.true_beq, Bool.false_beq]
          exact ⟨.refl _, .refl _, .refl _⟩

end Go.Proofs.Lx
