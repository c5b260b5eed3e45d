/- The pairs of a view: what lies beneath. -/
import Derived.Test.YthfbpdipilajoaaGreatDoorL15
set_option linter.unusedSimpArgs false
set_option linter.unusedVariables false
namespace Go.Proofs.Lx
open Go.Vm
attribute [local irreducible] awpArr awpBin awpMake awpAppend awpCvX awpStrOf awpBinX awpSlice awpBS awpStore awpAlloc awpCopy awpIndex awpDraw awpIdxX awpFa awpField awpLookup awpUpdate awpDelete awpClear awpRange awpNext awpEntry awpBuild awpClearS awpIdxL

def prefixSpec : Vm.Spec := fun args h Q => ∃ a b : List UInt8, a.length ≤ 4611686018427387904 ∧ b.length ≤ 4611686018427387904 ∧ args = [.sl 1 (a.map encB), .sl 1 (b.map encB)] ∧ Q (.v (.bool (b.isPrefixOf a))) h

theorem isPrefixOf_take : ∀ (a b : List UInt8), b.length ≤ a.length → (a.take b.length == b) = b.isPrefixOf a
  | _, [], _ => by simp
  | [], y :: b, h => by simp at h
  | x :: a, y :: b, h => by
    have ih := isPrefixOf_take a b (by simpa using h)
    simp only [List.length_cons, List.take_succ_cons, List.isPrefixOf_cons_cons, ← ih]
    by_cases hxy : y = x
    · subst hxy; simp
    · have h1 : (x == y) = false := by simp only [beq_eq_false_iff_ne]; exact fun e => hxy e.symm
      have h2 : (y == x) = false := by simpa using hxy
      simp [List.cons_beq_cons, h1, h2]
theorem isPrefixOf_long : ∀ (a b : List UInt8), ¬ b.length ≤ a.length → b.isPrefixOf a = false
  | _, [], h => by simp at h
  | [], y :: b, h => rfl
  | x :: a, y :: b, h => by
    have ih := isPrefixOf_long a b (by simpa using h)
    simp [List.isPrefixOf_cons_cons, ih]

theorem does_hasPrefix : Does Tryz.prog 122 prefixSpec := by
  refine does_of_awp (good_cons does_equal good_nil) Tryz.func122 rfl (by decide +kernel) (by decide +kernel) ?_
  rintro args h Q ⟨a, b, ha, hb, rfl, hq⟩
  refine ⟨by simp [Tryz.f122], ?_⟩
  rw [awpFunc_some (by rfl)]
  simp -dsimp only [Vm.E, List.lookup, Nat.reduceAdd, Nat.reduceBEq, Int.reduceBNe, Int.reduceBEq, Bool.true_beq, Bool.false_beq, Tryz.underlying45]
  cases c1 : decide ((a.length : Int) ≥ b.length)
  · have d1 := of_decide_eq_false c1
    rw [isPrefixOf_long a b (by omega)] at hq
    simp -dsimp only [Vm.E, List.lookup, Nat.reduceAdd, Nat.reduceBEq, Int.reduceBNe, Int.reduceBEq, Bool.true_beq, Bool.false_beq, Tryz.results122]
    exact hq
  · have d1 := of_decide_eq_true c1
    simp -dsimp only [Vm.E, List.lookup, Nat.reduceAdd, Nat.reduceBEq, Int.reduceBNe, Int.reduceBEq, Bool.true_beq, Bool.false_beq, Tryz.underlying45]
    refine slice_h es45 (by omega) (by simp; omega) ?_
    have e1 : (a.map encB).take (b.length : Int).toNat = (a.take b.length).map encB := by rw [Int.toNat_natCast, List.map_take]
    simp -dsimp only [Vm.E, List.lookup, Nat.reduceAdd, Nat.reduceBEq, Int.reduceBNe, Int.reduceBEq, Bool.true_beq, Bool.false_beq, e1]
    refine call_one (S := equalSpec) rfl _ GaL.rfl ⟨a.take b.length, b, rfl, ?_⟩
    simp -dsimp only [Vm.E, List.lookup, Nat.reduceAdd, Nat.reduceBEq, Int.reduceBNe, Int.reduceBEq, Bool.true_beq, Bool.false_beq, Tryz.results122]
    rw [isPrefixOf_take a b (by omega)]
    exact hq

/-- A clone, as bytes that are there. -/
def cloneWSpec : Vm.Spec := fun args h Q => ∃ l : List UInt8, l.length ≤ 70368744177664 ∧ args = [.sl 1 (l.map encB)] ∧ Q (.own true 5 1 (l.map encB)) h ∧ Q (.sl 1 (l.map encB)) h
theorem does_cloneW : Does Tryz.prog 90 cloneWSpec := by
  refine does_clone.weak.imp ?_
  rintro args h Q ⟨l, hl, rfl, hq1, hq2⟩
  refine ⟨l, hl, rfl, fun v hv => ?_⟩
  rcases hv with rfl | ⟨rfl, rfl⟩
  · exact ⟨_, .refl _, hq1⟩
  · exact ⟨_, .nil 1, hq2⟩

abbrev KV := List UInt8 × List UInt8
def kvAv (p : KV) : AV := .agg [.sl 1 (p.1.map encB), .sl 1 (p.2.map encB)]
theorem kvAv_pr (p : KV) : isPr (kvAv p) := ⟨_, _, rfl, rfl, rfl⟩
def kvE (e : Ent) : KV := (kOf e, bytesOf e.val)

theorem nodup_of_map {α β : Type} {f : α → β} {l : List α} (h : (l.map f).Nodup) : l.Nodup := List.Pairwise.of_map f (fun a b hne e => hne (by rw [e])) h
theorem inj_of_map {α β : Type} {f : α → β} {l : List α} (h : (l.map f).Nodup) {a b : α} (ha : a ∈ l) (hb : b ∈ l) (e : f a = f b) : a = b := by
  induction l with
  | nil => cases ha
  | cons x l ih =>
    simp only [List.map_cons, List.nodup_cons] at h
    rcases List.mem_cons.1 ha with h1 | h1
    · rcases List.mem_cons.1 hb with h2 | h2
      · rw [h1, h2]
      · exact absurd (by rw [← h1, e]; exact List.mem_map_of_mem h2) h.1
    · rcases List.mem_cons.1 hb with h2 | h2
      · exact absurd (by rw [← h2, ← e]; exact List.mem_map_of_mem h1) h.1
      · exact ih h.2 h1 h2

/-- All entries were seen. -/
theorem seen_all {es done : List Ent} (hn : (es.map (·.born)).Nodup) (hd : ∀ d ∈ done, d ∈ es) (hdn : (done.map (·.born)).Nodup) (hl : leftE es (done.map (·.born)) = []) : done.Perm es := by
  refine (List.perm_ext_iff_of_nodup (nodup_of_map hdn) (nodup_of_map hn)).2 fun a => ⟨hd a, fun ha => ?_⟩
  have : a ∉ leftE es (done.map (·.born)) := by rw [hl]; simp
  unfold leftE at this
  rw [List.mem_filter] at this
  have hc : (done.map (·.born)).contains a.born = true := by
    cases hb : (done.map (·.born)).contains a.born
    · exact absurd ⟨ha, by rw [hb]; rfl⟩ this
    · rfl
  rw [List.contains_iff_mem] at hc
  obtain ⟨d, hd1, hd2⟩ := List.mem_map.1 hc
  rw [inj_of_map hn ha (hd d hd1) hd2.symm]; exact hd1
theorem left_mem {es : List Ent} {seen : List Nat} {e : Ent} (he : e ∈ leftE es seen) : e ∈ es ∧ e.born ∉ seen := by
  unfold leftE at he
  obtain ⟨h1, h2⟩ := List.mem_filter.1 he
  exact ⟨h1, by simpa using h2⟩
theorem left_less {es : List Ent} {seen : List Nat} {e : Ent} (he : e ∈ leftE es seen) : (leftE es (seen ++ [e.born])).length < (leftE es seen).length := by
  have e1 : leftE es (seen ++ [e.born]) = (leftE es seen).filter fun x => x.born != e.born := by
    unfold leftE
    rw [List.filter_filter]
    congr 1
    funext x
    simp only [List.contains_append, Bool.not_or]
    by_cases h1 : x.born = e.born
    · simp [h1]
    · simp [h1, Bool.and_comm]
  rw [e1]
  refine List.length_filter_lt_length_iff_exists.2 ⟨e, he, by simp⟩
theorem done_more {es : List Ent} {done : List Ent} {e : Ent} (he : e ∈ leftE es (done.map (·.born))) (hd : ∀ d ∈ done, d ∈ es) (hdn : (done.map (·.born)).Nodup) :
    (∀ d ∈ done ++ [e], d ∈ es) ∧ ((done ++ [e]).map (·.born)).Nodup := by
  obtain ⟨h1, h2⟩ := left_mem he
  refine ⟨fun d hd' => ?_, ?_⟩
  · rcases List.mem_append.1 hd' with h | h
    · exact hd d h
    · rw [List.mem_singleton] at h; subst h; exact h1
  · rw [List.map_append, List.nodup_append]
    exact ⟨hdn, by simp, fun a ha b hb => by simp only [List.map_cons, List.map_nil, List.mem_singleton] at hb; subst hb; intro e; exact h2 (e ▸ ha)⟩

theorem find_born {es : List Ent} (hn : (es.map (·.born)).Nodup) {e : Ent} (he : e ∈ es) : es.find? (fun x => x.born == e.born) = some e := by
  induction es with
  | nil => cases he
  | cons x es ih =>
    simp only [List.map_cons, List.nodup_cons] at hn
    rw [List.find?_cons]
    rcases List.mem_cons.1 he with rfl | he
    · simp
    · have : (x.born == e.born) = false := by
        simp only [beq_eq_false_iff_ne]
        intro h; exact hn.1 (h ▸ List.mem_map_of_mem he)
      rw [this]; exact ih hn.2 he

def baseSpec : Vm.Spec := fun args h Q => ∃ (iv ic im : Nat) (mem : List Ent) (clk : Nat) (pre : List UInt8), args = [.ptr iv 0, .sl 1 (pre.map encB)] ∧ pre.length ≤ 4611686018427387904 ∧ h[iv]? = some (vobj ic im) ∧ h[im]? = some (.map mem clk) ∧ (∀ e ∈ mem, WfM e) ∧ Born mem clk ∧ mem.length ≤ 1073741824 ∧ (∀ e ∈ mem, (kOf e).length ≤ 32) ∧
  ∀ l : List KV, l.Perm ((mem.filter fun e => pre.isPrefixOf (kOf e)).map kvE) → Q (.own true 47 2 (l.map kvAv)) h

theorem key_string {e : Ent} {k : List UInt8} (h : e.key = strK k) : AV.v e.key = .v (.string ⟨k.toArray⟩) := by rw [h]; rfl

set_option maxRecDepth 20000 in
theorem does_base : Does Tryz.prog 120 baseSpec := by
  refine does_of_awp (good_cons does_hasPrefix (good_cons does_cloneW good_nil)) Tryz.func120 rfl (by decide +kernel) (by decide +kernel) ?_
  rintro args h Q ⟨iv, ic, im, mem, clk, pre, rfl, hpl, hv, hm, hw, hb, hml, hk32, hq⟩
  refine ⟨by simp [Tryz.f120], ?_⟩
  rw [awpFunc_some (by rfl)]
  simp -dsimp only [Vm.E, List.lookup, Nat.reduceAdd, Nat.reduceBEq, Int.reduceBNe, Int.reduceBEq, Bool.true_beq, Bool.false_beq, fo126_1, hv, of121]
  refine nil_pointer Tryz.underlying121 ?_
  simp -dsimp only [Vm.E, List.lookup, Nat.reduceAdd, Nat.reduceBEq, Int.reduceBNe, Int.reduceBEq, Bool.true_beq, Bool.false_beq, fo126_2, hv, of124]
  refine range_intro mt124 mem clk hm ?_
  simp -dsimp only [Vm.E, List.lookup, Nat.reduceAdd, Nat.reduceBEq, Int.reduceBNe, Int.reduceBEq, Bool.true_beq, Bool.false_beq]
  refine awp_loop (fun m s h' => ∃ done : List Ent, m = (leftE mem (done.map (·.born))).length ∧ done.length + m ≤ mem.length ∧ h' = h ∧ (∀ d ∈ done, d ∈ mem) ∧ (done.map (·.born)).Nodup ∧
      s = mk [(1, .sl 1 (pre.map encB)), (7, .own true 47 2 (((done.filter fun e => pre.isPrefixOf (kOf e)).map kvE).map kvAv)), (32, .iter im clk (done.map (·.born)) clk)])
    mem.length _ (le_mk _ ?_) ⟨[], (congrArg List.length (List.filter_eq_self.2 fun _ _ => rfl)).symm, by simp, rfl, by simp, by simp, rfl⟩ ?_
  · simp only [List.forall_mem_cons, List.not_mem_nil, false_imp_iff, implies_true, and_true]
    simp -dsimp only [Vm.E, List.lookup, Nat.reduceAdd, Nat.reduceBEq, Int.reduceBNe, Int.reduceBEq, Bool.true_beq, Bool.false_beq]
    exact ⟨.refl _, .nil _ _ _ (by decide), .refl _⟩
  · rintro m s h' ⟨done, rfl, hlen, rfl, hd, hdn, rfl⟩
    simp -dsimp only [Vm.E, List.lookup, Nat.reduceAdd, Nat.reduceBEq, Int.reduceBNe, Int.reduceBEq, Bool.true_beq, Bool.false_beq]
    refine next_intro mem clk hm (fun e he => hb.2 e he) (Nat.le_refl _) (fun hl => ?_) (fun e he => ?_)
    · simp -dsimp only [Vm.E, List.lookup, Nat.reduceAdd, Nat.reduceBEq, Int.reduceBNe, Int.reduceBEq, Bool.true_beq, Bool.false_beq, Tryz.results120]
      refine hq _ ?_
      exact ((seen_all hb.1.1 hd hdn hl).filter _).map _
    · obtain ⟨hem, heb⟩ := left_mem he
      obtain ⟨⟨k, hk⟩, l, hx, hl⟩ := hw e hem
      obtain ⟨hd2, hdn2⟩ := done_more he hd hdn
      have hless := left_less he
      have hkk := kOf_eq hk
      have hbv := bytesOf_isB hx
      have hfl : (done.filter fun e => pre.isPrefixOf (kOf e)).length ≤ done.length := List.length_filter_le ..
      have ef : ((done ++ [e]).filter fun e => pre.isPrefixOf (kOf e)) = (done.filter fun e => pre.isPrefixOf (kOf e)) ++ if pre.isPrefixOf k then [e] else [] := by
        rw [List.filter_append, List.filter_cons, List.filter_nil, hkk]
      have emap : (done ++ [e]).map (·.born) = done.map (·.born) ++ [e.born] := by simp
      simp -dsimp only [Vm.E, List.lookup, Nat.reduceAdd, Nat.reduceBEq, Int.reduceBNe, Int.reduceBEq, Bool.true_beq, Bool.false_beq]
      refine entry_intro mem clk e hm (find_born hb.1.1 hem) ?_
      simp only [key_string hk]
      have hg := hx.ga
      have hbk : kvE e = (k, l) := by simp [kvE, hkk, hbv]
      have fin : (pre.isPrefixOf k = true → (done ++ [e]).filter (fun e => pre.isPrefixOf (kOf e)) = (done.filter fun e => pre.isPrefixOf (kOf e)) ++ [e]) ∧ (pre.isPrefixOf k = false → (done ++ [e]).filter (fun e => pre.isPrefixOf (kOf e)) = (done.filter fun e => pre.isPrefixOf (kOf e))) := by
        rw [ef]
        exact ⟨fun h => by rw [if_pos h], fun h => by rw [if_neg (by rw [h]; decide), List.append_nil]⟩
      generalize e.val = x at hx hg ⊢
      have hkl : k.length ≤ 32 := by have := hk32 e hem; rw [hkk] at this; exact this
      have hks : (ByteArray.mk k.toArray).size ≤ maxLen := by
        have : (ByteArray.mk k.toArray).size = k.length := by simp [ByteArray.size]
        rw [this]; unfold maxLen; omega
      have hkd : (ByteArray.mk k.toArray).data.toList = k := by simp
      have eout : ∀ b : Bool, pre.isPrefixOf k = b → ((done ++ [e]).filter fun e => pre.isPrefixOf (kOf e)).map kvE = ((done.filter fun e => pre.isPrefixOf (kOf e)).map kvE) ++ if b then [(k, l)] else [] := fun b hb' => by
        cases b
        · rw [fin.2 hb']; simp
        · rw [fin.1 hb', List.map_append, List.map_cons, List.map_nil, hbk]; simp
      rcases hx with rfl | ⟨rfl, rfl⟩
      · simp -dsimp only [Vm.E, List.lookup, Nat.reduceAdd, Nat.reduceBEq, Int.reduceBNe, Int.reduceBEq, Bool.true_beq, Bool.false_beq]
        refine cvX_bytes bt45 Tryz.underlying9 hks ?_
        simp -dsimp only [Vm.E, List.lookup, Nat.reduceAdd, Nat.reduceBEq, Int.reduceBNe, Int.reduceBEq, Bool.true_beq, Bool.false_beq, hkd]
        refine call_one (S := prefixSpec) rfl _ GaL.rfl ⟨k, pre, by omega, hpl, rfl, ?_⟩
        cases hp : pre.isPrefixOf k
        · simp -dsimp only [Vm.E, List.lookup, Nat.reduceAdd, Nat.reduceBEq, Int.reduceBNe, Int.reduceBEq, Bool.true_beq, Bool.false_beq]
          refine kept_intro ⟨_, hless, _, le_mk [(1, .sl 1 (pre.map encB)), (7, .own true 47 2 ((((done ++ [e]).filter fun e => pre.isPrefixOf (kOf e)).map kvE).map kvAv)), (32, .iter im clk ((done ++ [e]).map (·.born)) clk)] ?_,
            done ++ [e], by rw [emap], by rw [List.length_append]; simp only [List.length_cons, List.length_nil]; omega, rfl, hd2, hdn2, rfl⟩
          have e2 := eout false hp
          simp only [Bool.false_eq_true, if_false, List.append_nil] at e2
          simp only [List.forall_mem_cons, List.not_mem_nil, false_imp_iff, implies_true, and_true, e2, emap]
          simp -dsimp only [Vm.E, List.lookup, Nat.reduceAdd, Nat.reduceBEq, Int.reduceBNe, Int.reduceBEq, Bool.true_beq, Bool.false_beq]
          exact ⟨.refl _, .refl _, .refl _⟩
        · simp -dsimp only [Vm.E, List.lookup, Nat.reduceAdd, Nat.reduceBEq, Int.reduceBNe, Int.reduceBEq, Bool.true_beq, Bool.false_beq]
          refine cvX_bytes bt45 Tryz.underlying9 hks ?_
          simp -dsimp only [Vm.E, List.lookup, Nat.reduceAdd, Nat.reduceBEq, Int.reduceBNe, Int.reduceBEq, Bool.true_beq, Bool.false_beq, hkd]
          have e2 := eout true hp
          simp only [if_true] at e2
          refine call_one (S := cloneWSpec) rfl _ (GaL.cons hg .nil) ⟨l, by omega, rfl, ?_, ?_⟩
          · simp -dsimp only [Vm.E, List.lookup, Nat.reduceAdd, Nat.reduceBEq, Int.reduceBNe, Int.reduceBEq, Bool.true_beq, Bool.false_beq, sto_place, sto_box, sto_pp, sto_pc, sto_ptr, sto_cells, stoOk_eq, solid_v, solid_sl, solid_agg, solid_eptr, solid_ptr, solid_mp, solid_clo, cells_eptr, put_nil, put_zero, put_succ, bld_nil, bld_cons, bld_some, bsIx_nil, bsIx_cons, bsAll_nil, bsAll_cons, List.length_cons, List.length_nil, Nat.reduceLeDiff, decide_true, Bool.and_self, Bool.and_true, Bool.true_and, take_sc, take_z, eq_self, bd47, es40]
            refine bs_intro zr47 (by decide) (by decide) rfl rfl (by simp [solid, AV.cells]) ?_
            simp -dsimp only [Vm.E, List.lookup, Nat.reduceAdd, Nat.reduceBEq, Int.reduceBNe, Int.reduceBEq, Bool.true_beq, Bool.false_beq, append_own ei40]
            refine app_sl Tryz.underlying40 (by simp [AV.cells]) (by simp only [List.length_map, List.length_cons, List.length_nil]; omega) ?_
            simp -dsimp only [Vm.E, List.lookup, Nat.reduceAdd, Nat.reduceBEq, Int.reduceBNe, Int.reduceBEq, Bool.true_beq, Bool.false_beq]
            refine kept_intro ⟨_, hless, _, le_mk [(1, .sl 1 (pre.map encB)), (7, .own true 47 2 ((((done ++ [e]).filter fun e => pre.isPrefixOf (kOf e)).map kvE).map kvAv)), (32, .iter im clk ((done ++ [e]).map (·.born)) clk)] ?_,
              done ++ [e], by rw [emap], by rw [List.length_append]; simp only [List.length_cons, List.length_nil]; omega, rfl, hd2, hdn2, rfl⟩
            simp only [List.forall_mem_cons, List.not_mem_nil, false_imp_iff, implies_true, and_true, e2, emap, List.map_append, List.map_cons, List.map_nil]
            simp -dsimp only [Vm.E, List.lookup, Nat.reduceAdd, Nat.reduceBEq, Int.reduceBNe, Int.reduceBEq, Bool.true_beq, Bool.false_beq]
            exact ⟨.refl _, .refl _, .refl _⟩
          · simp -dsimp only [Vm.E, List.lookup, Nat.reduceAdd, Nat.reduceBEq, Int.reduceBNe, Int.reduceBEq, Bool.true_beq, Bool.false_beq, sto_place, sto_box, sto_pp, sto_pc, sto_ptr, sto_cells, stoOk_eq, solid_v, solid_sl, solid_agg, solid_eptr, solid_ptr, solid_mp, solid_clo, cells_eptr, put_nil, put_zero, put_succ, bld_nil, bld_cons, bld_some, bsIx_nil, bsIx_cons, bsAll_nil, bsAll_cons, List.length_cons, List.length_nil, Nat.reduceLeDiff, decide_true, Bool.and_self, Bool.and_true, Bool.true_and, take_sc, take_z, eq_self, bd47, es40]
            refine bs_intro zr47 (by decide) (by decide) rfl rfl (by simp [solid, AV.cells]) ?_
            simp -dsimp only [Vm.E, List.lookup, Nat.reduceAdd, Nat.reduceBEq, Int.reduceBNe, Int.reduceBEq, Bool.true_beq, Bool.false_beq, append_own ei40]
            refine app_sl Tryz.underlying40 (by simp [AV.cells]) (by simp only [List.length_map, List.length_cons, List.length_nil]; omega) ?_
            simp -dsimp only [Vm.E, List.lookup, Nat.reduceAdd, Nat.reduceBEq, Int.reduceBNe, Int.reduceBEq, Bool.true_beq, Bool.false_beq]
            refine kept_intro ⟨_, hless, _, le_mk [(1, .sl 1 (pre.map encB)), (7, .own true 47 2 ((((done ++ [e]).filter fun e => pre.isPrefixOf (kOf e)).map kvE).map kvAv)), (32, .iter im clk ((done ++ [e]).map (·.born)) clk)] ?_,
              done ++ [e], by rw [emap], by rw [List.length_append]; simp only [List.length_cons, List.length_nil]; omega, rfl, hd2, hdn2, rfl⟩
            simp only [List.forall_mem_cons, List.not_mem_nil, false_imp_iff, implies_true, and_true, e2, emap, List.map_append, List.map_cons, List.map_nil]
            simp -dsimp only [Vm.E, List.lookup, Nat.reduceAdd, Nat.reduceBEq, Int.reduceBNe, Int.reduceBEq, Bool.true_beq, Bool.false_beq]
            exact ⟨.refl _, .refl _, .refl _⟩
      · simp -dsimp only [Vm.E, List.lookup, Nat.reduceAdd, Nat.reduceBEq, Int.reduceBNe, Int.reduceBEq, Bool.true_beq, Bool.false_beq]
        refine cvX_bytes bt45 Tryz.underlying9 hks ?_
        simp -dsimp only [Vm.E, List.lookup, Nat.reduceAdd, Nat.reduceBEq, Int.reduceBNe, Int.reduceBEq, Bool.true_beq, Bool.false_beq, hkd]
        refine call_one (S := prefixSpec) rfl _ GaL.rfl ⟨k, pre, by omega, hpl, rfl, ?_⟩
        cases hp : pre.isPrefixOf k
        · simp -dsimp only [Vm.E, List.lookup, Nat.reduceAdd, Nat.reduceBEq, Int.reduceBNe, Int.reduceBEq, Bool.true_beq, Bool.false_beq]
          refine kept_intro ⟨_, hless, _, le_mk [(1, .sl 1 (pre.map encB)), (7, .own true 47 2 ((((done ++ [e]).filter fun e => pre.isPrefixOf (kOf e)).map kvE).map kvAv)), (32, .iter im clk ((done ++ [e]).map (·.born)) clk)] ?_,
            done ++ [e], by rw [emap], by rw [List.length_append]; simp only [List.length_cons, List.length_nil]; omega, rfl, hd2, hdn2, rfl⟩
          have e2 := eout false hp
          simp only [Bool.false_eq_true, if_false, List.append_nil] at e2
          simp only [List.forall_mem_cons, List.not_mem_nil, false_imp_iff, implies_true, and_true, e2, emap]
          simp -dsimp only [Vm.E, List.lookup, Nat.reduceAdd, Nat.reduceBEq, Int.reduceBNe, Int.reduceBEq, Bool.true_beq, Bool.false_beq]
          exact ⟨.refl _, .refl _, .refl _⟩
        · simp -dsimp only [Vm.E, List.lookup, Nat.reduceAdd, Nat.reduceBEq, Int.reduceBNe, Int.reduceBEq, Bool.true_beq, Bool.false_beq]
          refine cvX_bytes bt45 Tryz.underlying9 hks ?_
          simp -dsimp only [Vm.E, List.lookup, Nat.reduceAdd, Nat.reduceBEq, Int.reduceBNe, Int.reduceBEq, Bool.true_beq, Bool.false_beq, hkd]
          have e2 := eout true hp
          simp only [if_true] at e2
          refine call_one (S := cloneWSpec) rfl _ (GaL.cons hg .nil) ⟨[], by simp, rfl, ?_, ?_⟩
          · simp -dsimp only [Vm.E, List.lookup, Nat.reduceAdd, Nat.reduceBEq, Int.reduceBNe, Int.reduceBEq, Bool.true_beq, Bool.false_beq, sto_place, sto_box, sto_pp, sto_pc, sto_ptr, sto_cells, stoOk_eq, solid_v, solid_sl, solid_agg, solid_eptr, solid_ptr, solid_mp, solid_clo, cells_eptr, put_nil, put_zero, put_succ, bld_nil, bld_cons, bld_some, bsIx_nil, bsIx_cons, bsAll_nil, bsAll_cons, List.length_cons, List.length_nil, Nat.reduceLeDiff, decide_true, Bool.and_self, Bool.and_true, Bool.true_and, take_sc, take_z, eq_self, bd47, es40]
            refine bs_intro zr47 (by decide) (by decide) rfl rfl (by simp [solid, AV.cells]) ?_
            simp -dsimp only [Vm.E, List.lookup, Nat.reduceAdd, Nat.reduceBEq, Int.reduceBNe, Int.reduceBEq, Bool.true_beq, Bool.false_beq, append_own ei40]
            refine app_sl Tryz.underlying40 (by simp [AV.cells]) (by simp only [List.length_map, List.length_cons, List.length_nil]; omega) ?_
            simp -dsimp only [Vm.E, List.lookup, Nat.reduceAdd, Nat.reduceBEq, Int.reduceBNe, Int.reduceBEq, Bool.true_beq, Bool.false_beq]
            refine kept_intro ⟨_, hless, _, le_mk [(1, .sl 1 (pre.map encB)), (7, .own true 47 2 ((((done ++ [e]).filter fun e => pre.isPrefixOf (kOf e)).map kvE).map kvAv)), (32, .iter im clk ((done ++ [e]).map (·.born)) clk)] ?_,
              done ++ [e], by rw [emap], by rw [List.length_append]; simp only [List.length_cons, List.length_nil]; omega, rfl, hd2, hdn2, rfl⟩
            simp only [List.forall_mem_cons, List.not_mem_nil, false_imp_iff, implies_true, and_true, e2, emap, List.map_append, List.map_cons, List.map_nil]
            simp -dsimp only [Vm.E, List.lookup, Nat.reduceAdd, Nat.reduceBEq, Int.reduceBNe, Int.reduceBEq, Bool.true_beq, Bool.false_beq]
            exact ⟨.refl _, .refl _, .refl _⟩
          · simp -dsimp only [Vm.E, List.lookup, Nat.reduceAdd, Nat.reduceBEq, Int.reduceBNe, Int.reduceBEq, Bool.true_beq, Bool.false_beq, sto_place, sto_box, sto_pp, sto_pc, sto_ptr, sto_cells, stoOk_eq, solid_v, solid_sl, solid_agg, solid_eptr, solid_ptr, solid_mp, solid_clo, cells_eptr, put_nil, put_zero, put_succ, bld_nil, bld_cons, bld_some, bsIx_nil, bsIx_cons, bsAll_nil, bsAll_cons, List.length_cons, List.length_nil, Nat.reduceLeDiff, decide_true, Bool.and_self, Bool.and_true, Bool.true_and, take_sc, take_z, eq_self, bd47, es40]
            refine bs_intro zr47 (by decide) (by decide) rfl rfl (by simp [solid, AV.cells]) ?_
            simp -dsimp only [Vm.E, List.lookup, Nat.reduceAdd, Nat.reduceBEq, Int.reduceBNe, Int.reduceBEq, Bool.true_beq, Bool.false_beq, append_own ei40]
            refine app_sl Tryz.underlying40 (by simp [AV.cells]) (by simp only [List.length_map, List.length_cons, List.length_nil]; omega) ?_
            simp -dsimp only [Vm.E, List.lookup, Nat.reduceAdd, Nat.reduceBEq, Int.reduceBNe, Int.reduceBEq, Bool.true_beq, Bool.false_beq]
            refine kept_intro ⟨_, hless, _, le_mk [(1, .sl 1 (pre.map encB)), (7, .own true 47 2 ((((done ++ [e]).filter fun e => pre.isPrefixOf (kOf e)).map kvE).map kvAv)), (32, .iter im clk ((done ++ [e]).map (·.born)) clk)] ?_,
              done ++ [e], by rw [emap], by rw [List.length_append]; simp only [List.length_cons, List.length_nil]; omega, rfl, hd2, hdn2, rfl⟩
            simp only [List.forall_mem_cons, List.not_mem_nil, false_imp_iff, implies_true, and_true, e2, emap, List.map_append, List.map_cons, List.map_nil]
            simp -dsimp only [Vm.E, List.lookup, Nat.reduceAdd, Nat.reduceBEq, Int.reduceBNe, Int.reduceBEq, Bool.true_beq, Bool.false_beq]
            exact ⟨.refl _, .refl _, .refl _⟩

end Go.Proofs.Lx
